-- MINIFIED by wip/tools/minify.py
-- Written by this session's program wip/tools/pr.py out of the translation (with the kit's print.py). Not trusted: Lean checks it.
import Derived.Test.YtafnjlgdjhegaaaPr0
import Derived.Test.YtafnjlgdjhegaaaPr12
import Derived.Test.YtafnjlgdjhegaaaPr13
namespace Go.Proofs.Ytafnjlgdjhegaaa.Pr
open Go.RowKit Go.Proofs.YtafnjlgdjhegaaaW.PrintWords Go.Proofs.YtafnjlgdjhegaaaW.PrintLast Go.Proofs.YtafnjlgdjhegaaaW.PrintMore
attribute [local go_sem] max2_int min2_int max_two min_two max_three min_three max_four min_four   -- for this text's walks alone
set_option linter.unusedVariables false
set_option linter.unusedSimpArgs false

/-! ### musterref09_Look: function 11 -/
mutual
def musterref09_Look.j0 : Nat → List (S44) → Int → Int → Int → Bool → Option ((List (S44)) × Int × List Int × Int)
 | 0, _, _, _, _, _ => none
 | k + 1, x0, x1, x2, x3, x45 => if x45 = true then (some (([] : List (S44)), 0, ([] : List Int), 2)) else ((musterref09_find.f k x0 x1).bind fun t215 => (if t215 ≥ 0 then (if 0 ≤ t215 then (if t215 < (x0.length : Int) then (musterref09_Look.j1 k x0 x2 x3 t215 x1 ((rd_T44 x0 t215).f1)) else (none)) else (none)) else (if (x0.length : Int) ≥ 16 then (some (([] : List (S44)), 0, ([] : List Int), 5)) else (musterref09_Look.j1 k x0 x2 x3 t215 x1 0))))
def musterref09_Look.j1 : Nat → List (S44) → Int → Int → Int → Int → Int → Option ((List (S44)) × Int × List Int × Int)
 | 0, _, _, _, _, _, _ => none
 | k + 1, x0, x2, x3, x13, x215000, x215001 => musterref09_Look.l0 k x0 x2 x13 1 ([] : List Int) 0 x215000 (mx x215001 x3) ([] : List (S46))
def musterref09_Look.l0 : Nat → List (S44) → Int → Int → Int → List Int → Int → Int → Int → List (S46) → Option ((List (S44)) × Int × List Int × Int)
 | 0, _, _, _, _, _, _, _, _, _ => none
 | k + 1, x0, x2, x13, x14, x15, x16, x215000, x215001, x215002 => if x13 ≥ 0 then (if 0 ≤ x13 then (if x13 < (x0.length : Int) then (musterref09_Look.j3 k x0 x2 x13 x14 x15 x16 (decide (x16 < (((rd_T44 x0 x13).f2).length : Int))) x215000 x215001 x215002) else (none)) else (none)) else (musterref09_Look.j3 k x0 x2 x13 x14 x15 x16 false x215000 x215001 x215002)
def musterref09_Look.j3 : Nat → List (S44) → Int → Int → Int → List Int → Int → Bool → Int → Int → List (S46) → Option ((List (S44)) × Int × List Int × Int)
 | 0, _, _, _, _, _, _, _, _, _, _ => none
 | k + 1, x0, x2, x13, x14, x15, x16, x78, x215000, x215001, x215002 => if x78 = true then (if 0 ≤ x13 then (if x13 < (x0.length : Int) then (if 0 ≤ x16 then (if x16 < (((rd_T44 x0 x13).f2).length : Int) then (if ((rd_T46 ((rd_T44 x0 x13).f2) x16).f0) > x215001 then (if x215002.length < 4398046511104 then ((some (x215002 ++ [(⟨(rd_T46 ((rd_T44 x0 x13).f2) x16).f0, (rd_T46 ((rd_T44 x0 x13).f2) x16).f1⟩ : S46)] : List (S46))).bind fun y221 => (if ((rd_T46 ((rd_T44 x0 x13).f2) x16).f0) = x2 then (musterref09_Look.l0 k x0 x2 x13 2 ((rd_T46 ((rd_T44 x0 x13).f2) x16).f1) (wrap64 (x16 + 1)) x215000 x215001 y221) else (musterref09_Look.l0 k x0 x2 x13 x14 x15 (wrap64 (x16 + 1)) x215000 x215001 y221))) else (none)) else (if ((rd_T46 ((rd_T44 x0 x13).f2) x16).f0) = x2 then (musterref09_Look.l0 k x0 x2 x13 2 ((rd_T46 ((rd_T44 x0 x13).f2) x16).f1) (wrap64 (x16 + 1)) x215000 x215001 x215002) else (musterref09_Look.l0 k x0 x2 x13 x14 x15 (wrap64 (x16 + 1)) x215000 x215001 x215002))) else (none)) else (none)) else (none)) else (none)) else (if x14 = 1 then (musterref09_Look.j4 k x0 x2 x14 x15 (decide ((x215002.length : Int) ≥ 8)) x215000 x215001 x215002) else (musterref09_Look.j4 k x0 x2 x14 x15 false x215000 x215001 x215002))
def musterref09_Look.j4 : Nat → List (S44) → Int → Int → List Int → Bool → Int → Int → List (S46) → Option ((List (S44)) × Int × List Int × Int)
 | 0, _, _, _, _, _, _, _, _ => none
 | k + 1, x0, x2, x14, x15, x113, x215000, x215001, x215002 => if x113 = true then (if x2 ≤ x215001 then ((musterref09_with.f k x0 x215000 x215001 x215002).bind fun t224 => (some (t224, 3, ([] : List Int), 0))) else ((musterref09_with.f k x0 x215000 x215001 x215002).bind fun t227 => (some (t227, 4, x15, 0)))) else (if x2 ≤ x215001 then ((musterref09_with.f k x0 x215000 x215001 x215002).bind fun t230 => (some (t230, 3, ([] : List Int), 0))) else ((musterref09_with.f k x0 x215000 x215001 x215002).bind fun t233 => (some (t233, x14, x15, 0))))
end
def musterref09_Look.f (k : Nat) (l0 : List (S44)) (a1 : Int) (a2 : Int) (a3 : Int) : Option ((List (S44)) × Int × List Int × Int) := (musterref09_Right.f k l0).bind fun t213 => (if t213 = true then (if a1 < 1 then (musterref09_Look.j0 k l0 a1 a2 a3 true) else (if a1 > 4611686018427387904 then (musterref09_Look.j0 k l0 a1 a2 a3 true) else (if a2 < 1 then (musterref09_Look.j0 k l0 a1 a2 a3 true) else (if a2 > 4611686018427387904 then (musterref09_Look.j0 k l0 a1 a2 a3 true) else (if a3 < 0 then (musterref09_Look.j0 k l0 a1 a2 a3 true) else (musterref09_Look.j0 k l0 a1 a2 a3 (decide (a3 ≥ a2)))))))) else (musterref09_Look.j0 k l0 a1 a2 a3 true))
theorem musterref09_Look.mono_l : ∀ k, (∀ y0 y1 y2 y3 y4, LeO (musterref09_Look.j0 k y0 y1 y2 y3 y4) (musterref09_Look.j0 (k + 1) y0 y1 y2 y3 y4)) ∧ (∀ y0 y1 y2 y3 y4 y5, LeO (musterref09_Look.j1 k y0 y1 y2 y3 y4 y5) (musterref09_Look.j1 (k + 1) y0 y1 y2 y3 y4 y5)) ∧ (∀ y0 y1 y2 y3 y4 y5 y6 y7 y8, LeO (musterref09_Look.l0 k y0 y1 y2 y3 y4 y5 y6 y7 y8) (musterref09_Look.l0 (k + 1) y0 y1 y2 y3 y4 y5 y6 y7 y8)) ∧ (∀ y0 y1 y2 y3 y4 y5 y6 y7 y8 y9, LeO (musterref09_Look.j3 k y0 y1 y2 y3 y4 y5 y6 y7 y8 y9) (musterref09_Look.j3 (k + 1) y0 y1 y2 y3 y4 y5 y6 y7 y8 y9)) ∧ (∀ y0 y1 y2 y3 y4 y5 y6 y7, LeO (musterref09_Look.j4 k y0 y1 y2 y3 y4 y5 y6 y7) (musterref09_Look.j4 (k + 1) y0 y1 y2 y3 y4 y5 y6 y7))
 | 0 => ⟨fun _ _ _ _ _ r h => by simp [musterref09_Look.j0] at h, fun _ _ _ _ _ _ r h => by simp [musterref09_Look.j1] at h, fun _ _ _ _ _ _ _ _ _ r h => by simp [musterref09_Look.l0] at h, fun _ _ _ _ _ _ _ _ _ _ r h => by simp [musterref09_Look.j3] at h, fun _ _ _ _ _ _ _ _ r h => by simp [musterref09_Look.j4] at h⟩
 | k + 1 => by
  obtain ⟨ih0, ih1, ih2, ih3, ih4⟩ := musterref09_Look.mono_l k
  refine ⟨?_, ?_, ?_, ?_, ?_⟩
  ·intro y0 y1 y2 y3 y4
   unfold musterref09_Look.j0
   repeat' first
   | (with_reducible exact ih0 _ _ _ _ _)
   | (with_reducible exact ih1 _ _ _ _ _ _)
   | (with_reducible exact ih2 _ _ _ _ _ _ _ _ _)
   | (with_reducible exact ih3 _ _ _ _ _ _ _ _ _ _)
   | (with_reducible exact ih4 _ _ _ _ _ _ _ _)
   | (with_reducible exact musterref09_Right.mono _ _)
   | (with_reducible exact musterref09_find.mono _ _ _)
   | (with_reducible exact musterref09_with.mono _ _ _ _ _)
   | (with_reducible exact LeO.refl _)
   | (with_reducible exact LeO.none _)
   | (with_reducible refine LeO.ite ?_ ?_)
   | (with_reducible refine LeO.bind ?_ (fun _ => ?_))
   | exact ih0 _ _ _ _ _
   | exact ih1 _ _ _ _ _ _
   | exact ih2 _ _ _ _ _ _ _ _ _
   | exact ih3 _ _ _ _ _ _ _ _ _ _
   | exact ih4 _ _ _ _ _ _ _ _
   | exact musterref09_Right.mono _ _
   | exact musterref09_find.mono _ _ _
   | exact musterref09_with.mono _ _ _ _ _
   | exact LeO.none _
   | refine LeO.ite ?_ ?_
   | refine LeO.bind ?_ (fun _ => ?_)
  ·intro y0 y1 y2 y3 y4 y5
   unfold musterref09_Look.j1
   repeat' first
   | (with_reducible exact ih0 _ _ _ _ _)
   | (with_reducible exact ih1 _ _ _ _ _ _)
   | (with_reducible exact ih2 _ _ _ _ _ _ _ _ _)
   | (with_reducible exact ih3 _ _ _ _ _ _ _ _ _ _)
   | (with_reducible exact ih4 _ _ _ _ _ _ _ _)
   | (with_reducible exact musterref09_Right.mono _ _)
   | (with_reducible exact musterref09_find.mono _ _ _)
   | (with_reducible exact musterref09_with.mono _ _ _ _ _)
   | (with_reducible exact LeO.refl _)
   | (with_reducible exact LeO.none _)
   | (with_reducible refine LeO.ite ?_ ?_)
   | (with_reducible refine LeO.bind ?_ (fun _ => ?_))
   | exact ih0 _ _ _ _ _
   | exact ih1 _ _ _ _ _ _
   | exact ih2 _ _ _ _ _ _ _ _ _
   | exact ih3 _ _ _ _ _ _ _ _ _ _
   | exact ih4 _ _ _ _ _ _ _ _
   | exact musterref09_Right.mono _ _
   | exact musterref09_find.mono _ _ _
   | exact musterref09_with.mono _ _ _ _ _
   | exact LeO.none _
   | refine LeO.ite ?_ ?_
   | refine LeO.bind ?_ (fun _ => ?_)
  ·intro y0 y1 y2 y3 y4 y5 y6 y7 y8
   unfold musterref09_Look.l0
   repeat' first
   | (with_reducible exact ih0 _ _ _ _ _)
   | (with_reducible exact ih1 _ _ _ _ _ _)
   | (with_reducible exact ih2 _ _ _ _ _ _ _ _ _)
   | (with_reducible exact ih3 _ _ _ _ _ _ _ _ _ _)
   | (with_reducible exact ih4 _ _ _ _ _ _ _ _)
   | (with_reducible exact musterref09_Right.mono _ _)
   | (with_reducible exact musterref09_find.mono _ _ _)
   | (with_reducible exact musterref09_with.mono _ _ _ _ _)
   | (with_reducible exact LeO.refl _)
   | (with_reducible exact LeO.none _)
   | (with_reducible refine LeO.ite ?_ ?_)
   | (with_reducible refine LeO.bind ?_ (fun _ => ?_))
   | exact ih0 _ _ _ _ _
   | exact ih1 _ _ _ _ _ _
   | exact ih2 _ _ _ _ _ _ _ _ _
   | exact ih3 _ _ _ _ _ _ _ _ _ _
   | exact ih4 _ _ _ _ _ _ _ _
   | exact musterref09_Right.mono _ _
   | exact musterref09_find.mono _ _ _
   | exact musterref09_with.mono _ _ _ _ _
   | exact LeO.none _
   | refine LeO.ite ?_ ?_
   | refine LeO.bind ?_ (fun _ => ?_)
  ·intro y0 y1 y2 y3 y4 y5 y6 y7 y8 y9
   unfold musterref09_Look.j3
   repeat' first
   | (with_reducible exact ih0 _ _ _ _ _)
   | (with_reducible exact ih1 _ _ _ _ _ _)
   | (with_reducible exact ih2 _ _ _ _ _ _ _ _ _)
   | (with_reducible exact ih3 _ _ _ _ _ _ _ _ _ _)
   | (with_reducible exact ih4 _ _ _ _ _ _ _ _)
   | (with_reducible exact musterref09_Right.mono _ _)
   | (with_reducible exact musterref09_find.mono _ _ _)
   | (with_reducible exact musterref09_with.mono _ _ _ _ _)
   | (with_reducible exact LeO.refl _)
   | (with_reducible exact LeO.none _)
   | (with_reducible refine LeO.ite ?_ ?_)
   | (with_reducible refine LeO.bind ?_ (fun _ => ?_))
   | exact ih0 _ _ _ _ _
   | exact ih1 _ _ _ _ _ _
   | exact ih2 _ _ _ _ _ _ _ _ _
   | exact ih3 _ _ _ _ _ _ _ _ _ _
   | exact ih4 _ _ _ _ _ _ _ _
   | exact musterref09_Right.mono _ _
   | exact musterref09_find.mono _ _ _
   | exact musterref09_with.mono _ _ _ _ _
   | exact LeO.none _
   | refine LeO.ite ?_ ?_
   | refine LeO.bind ?_ (fun _ => ?_)
  ·intro y0 y1 y2 y3 y4 y5 y6 y7
   unfold musterref09_Look.j4
   repeat' first
   | (with_reducible exact ih0 _ _ _ _ _)
   | (with_reducible exact ih1 _ _ _ _ _ _)
   | (with_reducible exact ih2 _ _ _ _ _ _ _ _ _)
   | (with_reducible exact ih3 _ _ _ _ _ _ _ _ _ _)
   | (with_reducible exact ih4 _ _ _ _ _ _ _ _)
   | (with_reducible exact musterref09_Right.mono _ _)
   | (with_reducible exact musterref09_find.mono _ _ _)
   | (with_reducible exact musterref09_with.mono _ _ _ _ _)
   | (with_reducible exact LeO.refl _)
   | (with_reducible exact LeO.none _)
   | (with_reducible refine LeO.ite ?_ ?_)
   | (with_reducible refine LeO.bind ?_ (fun _ => ?_))
   | exact ih0 _ _ _ _ _
   | exact ih1 _ _ _ _ _ _
   | exact ih2 _ _ _ _ _ _ _ _ _
   | exact ih3 _ _ _ _ _ _ _ _ _ _
   | exact ih4 _ _ _ _ _ _ _ _
   | exact musterref09_Right.mono _ _
   | exact musterref09_find.mono _ _ _
   | exact musterref09_with.mono _ _ _ _ _
   | exact LeO.none _
   | refine LeO.ite ?_ ?_
   | refine LeO.bind ?_ (fun _ => ?_)
theorem musterref09_Look.mono : ∀ a0 a1 a2 a3 k, LeO (musterref09_Look.f k a0 a1 a2 a3) (musterref09_Look.f (k + 1) a0 a1 a2 a3) := by
 intro a0 a1 a2 a3 k
 obtain ⟨ih0, ih1, ih2, ih3, ih4⟩ := musterref09_Look.mono_l k
 unfold musterref09_Look.f
 repeat' first
   | (with_reducible exact ih0 _ _ _ _ _)
   | (with_reducible exact ih1 _ _ _ _ _ _)
   | (with_reducible exact ih2 _ _ _ _ _ _ _ _ _)
   | (with_reducible exact ih3 _ _ _ _ _ _ _ _ _ _)
   | (with_reducible exact ih4 _ _ _ _ _ _ _ _)
   | (with_reducible exact musterref09_Right.mono _ _)
   | (with_reducible exact musterref09_find.mono _ _ _)
   | (with_reducible exact musterref09_with.mono _ _ _ _ _)
   | (with_reducible exact LeO.refl _)
   | (with_reducible exact LeO.none _)
   | (with_reducible refine LeO.ite ?_ ?_)
   | (with_reducible refine LeO.bind ?_ (fun _ => ?_))
   | exact ih0 _ _ _ _ _
   | exact ih1 _ _ _ _ _ _
   | exact ih2 _ _ _ _ _ _ _ _ _
   | exact ih3 _ _ _ _ _ _ _ _ _ _
   | exact ih4 _ _ _ _ _ _ _ _
   | exact musterref09_Right.mono _ _
   | exact musterref09_find.mono _ _ _
   | exact musterref09_with.mono _ _ _ _ _
   | exact LeO.none _
   | refine LeO.ite ?_ ?_
   | refine LeO.bind ?_ (fun _ => ?_)
set_option maxHeartbeats 8000000 in
set_option maxRecDepth 100000 in
theorem musterref09_Look.calls (k : Nat) (P0_ : Nat → Prop) (A0 : Option Addr) (c0 : Nat) (l0 : List (S44)) (a1 : Int) (a2 : Int) (a3 : Int) (r1 : List (S44)) (r2 : Int) (r3 : List Int) (r4 : Int) (w : World) (hs0 : Kd.V k44 44 w w.heap.size (fun k_ => P0_ k_) (.slice A0 l0.length c0) l0) (h : musterref09_Look.f k l0 a1 a2 a3 = some (r1, r2, r3, r4)) :
  Calls Try.prog 11 #[.slice A0 l0.length c0, .int .i64 a1, .int .i64 a2, .int .i64 a3] w fun e w' => ∃ v0_ v2_ : Value, e = .returned (.tuple #[v0_, .int .u8 r2, v2_, .int .i64 r4]) ∧ Kd.N k44 44 w' w.heap.size (fun k_ => (P0_ k_ ∨ w.heap.size ≤ k_)) v0_ r1 ∧ Kd.V (Kd.int .u8) 5 w' w.heap.size (fun k_ => (P0_ k_ ∨ w.heap.size ≤ k_) ∧ some k_ ≠ (v0_ : Value).ownBlock) v2_ r3 ∧ Below w.heap.size w w' := by
 have hu44 := Try.underlying44
 have hu46 := Try.underlying46
 have HO0 := Aside0.mk (show Kd.V k44 44 w w.heap.size (fun k_ => (P0_ k_ ∨ w.heap.size ≤ k_)) (.slice A0 l0.length c0) l0 from Kd.V_mono hs0 (fun k_ hk => .inl hk))
 have HB := Aside0.mk (Below.refl w.heap.size w)
 have H : ((musterref09_Right.f k l0).bind fun t213 => (if t213 = true then (if a1 < 1 then (musterref09_Look.j0 k l0 a1 a2 a3 true) else (if a1 > 4611686018427387904 then (musterref09_Look.j0 k l0 a1 a2 a3 true) else (if a2 < 1 then (musterref09_Look.j0 k l0 a1 a2 a3 true) else (if a2 > 4611686018427387904 then (musterref09_Look.j0 k l0 a1 a2 a3 true) else (if a3 < 0 then (musterref09_Look.j0 k l0 a1 a2 a3 true) else (musterref09_Look.j0 k l0 a1 a2 a3 (decide (a3 ≥ a2)))))))) else (musterref09_Look.j0 k l0 a1 a2 a3 true))) = some (r1, r2, r3, r4) := h
 clear h
 have HC5 := Aside0.mk H
 clear H
 go_enter Try.func11, Try.ntmps11
 go_upto_region 1 with (fail)
 go_cut [45] (fun v45 wc => ∃ (kq : Nat) (x45_4 : Bool), v45 = .bool x45_4 ∧ Aside0 (musterref09_Look.j0 kq l0 a1 a2 a3 x45_4 = some (r1, r2, r3, r4)) ∧ Aside0 (kq ≤ k) ∧ Aside0 (Kd.V k44 44 wc w.heap.size (fun k_ => (P0_ k_ ∨ w.heap.size ≤ k_)) (.slice A0 l0.length c0) l0) ∧ Aside0 (Below w.heap.size w wc))
 case first =>
  have H := HC5.out
  clear HC5
  replace H := Option.bind_eq_some_iff.mp H
  obtain ⟨t213, A60, H⟩ := H
  replace H : (if t213 = true then (if a1 < 1 then (musterref09_Look.j0 k l0 a1 a2 a3 true) else (if a1 > 4611686018427387904 then (musterref09_Look.j0 k l0 a1 a2 a3 true) else (if a2 < 1 then (musterref09_Look.j0 k l0 a1 a2 a3 true) else (if a2 > 4611686018427387904 then (musterref09_Look.j0 k l0 a1 a2 a3 true) else (if a3 < 0 then (musterref09_Look.j0 k l0 a1 a2 a3 true) else (musterref09_Look.j0 k l0 a1 a2 a3 (decide (a3 ≥ a2)))))))) else (musterref09_Look.j0 k l0 a1 a2 a3 true)) = some (r1, r2, r3, r4) := H
  have A6 := Aside0.mk A60
  clear A60
  by_cases c7 : t213 = true
  ·subst c7
   have H1 : (if a1 < 1 then (musterref09_Look.j0 k l0 a1 a2 a3 true) else (if a1 > 4611686018427387904 then (musterref09_Look.j0 k l0 a1 a2 a3 true) else (if a2 < 1 then (musterref09_Look.j0 k l0 a1 a2 a3 true) else (if a2 > 4611686018427387904 then (musterref09_Look.j0 k l0 a1 a2 a3 true) else (if a3 < 0 then (musterref09_Look.j0 k l0 a1 a2 a3 true) else (musterref09_Look.j0 k l0 a1 a2 a3 (decide (a3 ≥ a2)))))))) = some (r1, r2, r3, r4) := by rw [if_pos rfl] at H; exact H
   clear H
   have H := H1
   clear H1
   by_cases c8 : a1 < 1
   ·rw [if_pos c8] at H
    have c8b0 : decide (a1 < 1) = true := decide_eq_true c8
    clear c8
    (first | rw [c8b0] | (simp only [i64_w, i32_w]; rw [c8b0]) | skip)
    have H' := Aside0.mk H
    clear H
    go_wp2_with (first | ((with_reducible refine gate_callee (f := 15) rfl ?_); refine goesL_ (some 19) rfl rfl Try.func15 (by kernel_rfl) rfl #[.slice A0 l0.length c0] rfl (by (try simp only [List.map_toArray, List.map_cons, List.map_nil]); first | done | rfl | (simp only [List.length_drop, List.length_take]; rfl)) ?_; (with_reducible refine (musterref09_Right.calls k _ _ l0 true _ ?side1 ?side2 A6.out).mono ?_); (case side1 => repeat (first | exact (Kd.V_reads' HO0.out).2.2 | (with_reducible refine Kd.C_alloc ?_ _) | (with_reducible refine Kd.C_drewN ?_ _) | (with_reducible refine Kd.C_drew ?_))); (case side2 => exact (Kd.V_reads' HO0.out).2.1); rintro e w9 ⟨rfl, hb⟩; refine ⟨_, rfl, ?_⟩; have n0_ := Aside0.mk (Kd.V_below (by (with_reducible repeat (first | apply Kd.V_alloc | apply Kd.V_drewN | apply Kd.V_drew)); exact HO0.out) hb); have n1_ := Aside0.mk (below_step (by repeat (first | (with_reducible first | exact HB.out | apply below_alloc | apply pw_below_drewN | apply below_drew1) | exact HB.out)) hb); clear HO0; clear HB; have HO0 := n0_; have HB := n1_; clear n0_ n1_; (try clear hb); (try clear hb2); (try clear hk); (try clear hi)))
    go_meet
    case rel => exact ⟨_, (true), (by first | rfl | (simp; done) | (simp [*]; done)), H', ⟨by first | omega | exact Nat.le_refl _⟩, ⟨by (with_reducible repeat (first | apply Kd.V_alloc | apply Kd.V_drewN | apply Kd.V_drew)); exact HO0.out⟩, ⟨by repeat (first | (with_reducible first | exact HB.out | apply below_alloc | apply pw_below_drewN | apply below_drew1) | exact HB.out)⟩⟩
   ·rw [if_neg c8] at H
    have c8b0 : decide (a1 < 1) = false := decide_eq_false c8
    clear c8
    (first | rw [c8b0] | (simp only [i64_w, i32_w]; rw [c8b0]) | skip)
    by_cases c10 : a1 > 4611686018427387904
    ·rw [if_pos c10] at H
     have c10b0 : decide (4611686018427387904 < a1) = true := decide_eq_true c10
     clear c10
     have H' := Aside0.mk H
     clear H
     go_wp2_with (first | ((with_reducible refine gate_callee (f := 15) rfl ?_); refine goesL_ (some 19) rfl rfl Try.func15 (by kernel_rfl) rfl #[.slice A0 l0.length c0] rfl (by (try simp only [List.map_toArray, List.map_cons, List.map_nil]); first | done | rfl | (simp only [List.length_drop, List.length_take]; rfl)) ?_; (with_reducible refine (musterref09_Right.calls k _ _ l0 true _ ?side1 ?side2 A6.out).mono ?_); (case side1 => repeat (first | exact (Kd.V_reads' HO0.out).2.2 | (with_reducible refine Kd.C_alloc ?_ _) | (with_reducible refine Kd.C_drewN ?_ _) | (with_reducible refine Kd.C_drew ?_))); (case side2 => exact (Kd.V_reads' HO0.out).2.1); rintro e w11 ⟨rfl, hb⟩; refine ⟨_, rfl, ?_⟩; have n0_ := Aside0.mk (Kd.V_below (by (with_reducible repeat (first | apply Kd.V_alloc | apply Kd.V_drewN | apply Kd.V_drew)); exact HO0.out) hb); have n1_ := Aside0.mk (below_step (by repeat (first | (with_reducible first | exact HB.out | apply below_alloc | apply pw_below_drewN | apply below_drew1) | exact HB.out)) hb); clear HO0; clear HB; have HO0 := n0_; have HB := n1_; clear n0_ n1_; (try clear hb); (try clear hb2); (try clear hk); (try clear hi)))
     go_meet
     case rel => exact ⟨_, (true), (by first | rfl | (simp; done) | (simp [*]; done)), H', ⟨by first | omega | exact Nat.le_refl _⟩, ⟨by (with_reducible repeat (first | apply Kd.V_alloc | apply Kd.V_drewN | apply Kd.V_drew)); exact HO0.out⟩, ⟨by repeat (first | (with_reducible first | exact HB.out | apply below_alloc | apply pw_below_drewN | apply below_drew1) | exact HB.out)⟩⟩
    ·rw [if_neg c10] at H
     have c10b0 : decide (4611686018427387904 < a1) = false := decide_eq_false c10
     clear c10
     by_cases c12 : a2 < 1
     ·rw [if_pos c12] at H
      have c12b0 : decide (a2 < 1) = true := decide_eq_true c12
      clear c12
      have H' := Aside0.mk H
      clear H
      go_wp2_with (first | ((with_reducible refine gate_callee (f := 15) rfl ?_); refine goesL_ (some 19) rfl rfl Try.func15 (by kernel_rfl) rfl #[.slice A0 l0.length c0] rfl (by (try simp only [List.map_toArray, List.map_cons, List.map_nil]); first | done | rfl | (simp only [List.length_drop, List.length_take]; rfl)) ?_; (with_reducible refine (musterref09_Right.calls k _ _ l0 true _ ?side1 ?side2 A6.out).mono ?_); (case side1 => repeat (first | exact (Kd.V_reads' HO0.out).2.2 | (with_reducible refine Kd.C_alloc ?_ _) | (with_reducible refine Kd.C_drewN ?_ _) | (with_reducible refine Kd.C_drew ?_))); (case side2 => exact (Kd.V_reads' HO0.out).2.1); rintro e w13 ⟨rfl, hb⟩; refine ⟨_, rfl, ?_⟩; have n0_ := Aside0.mk (Kd.V_below (by (with_reducible repeat (first | apply Kd.V_alloc | apply Kd.V_drewN | apply Kd.V_drew)); exact HO0.out) hb); have n1_ := Aside0.mk (below_step (by repeat (first | (with_reducible first | exact HB.out | apply below_alloc | apply pw_below_drewN | apply below_drew1) | exact HB.out)) hb); clear HO0; clear HB; have HO0 := n0_; have HB := n1_; clear n0_ n1_; (try clear hb); (try clear hb2); (try clear hk); (try clear hi)))
      go_meet
      case rel => exact ⟨_, (true), (by first | rfl | (simp; done) | (simp [*]; done)), H', ⟨by first | omega | exact Nat.le_refl _⟩, ⟨by (with_reducible repeat (first | apply Kd.V_alloc | apply Kd.V_drewN | apply Kd.V_drew)); exact HO0.out⟩, ⟨by repeat (first | (with_reducible first | exact HB.out | apply below_alloc | apply pw_below_drewN | apply below_drew1) | exact HB.out)⟩⟩
     ·rw [if_neg c12] at H
      have c12b0 : decide (a2 < 1) = false := decide_eq_false c12
      clear c12
      by_cases c14 : a2 > 4611686018427387904
      ·rw [if_pos c14] at H
       have c14b0 : decide (4611686018427387904 < a2) = true := decide_eq_true c14
       clear c14
       have H' := Aside0.mk H
       clear H
       go_wp2_with (first | ((with_reducible refine gate_callee (f := 15) rfl ?_); refine goesL_ (some 19) rfl rfl Try.func15 (by kernel_rfl) rfl #[.slice A0 l0.length c0] rfl (by (try simp only [List.map_toArray, List.map_cons, List.map_nil]); first | done | rfl | (simp only [List.length_drop, List.length_take]; rfl)) ?_; (with_reducible refine (musterref09_Right.calls k _ _ l0 true _ ?side1 ?side2 A6.out).mono ?_); (case side1 => repeat (first | exact (Kd.V_reads' HO0.out).2.2 | (with_reducible refine Kd.C_alloc ?_ _) | (with_reducible refine Kd.C_drewN ?_ _) | (with_reducible refine Kd.C_drew ?_))); (case side2 => exact (Kd.V_reads' HO0.out).2.1); rintro e w15 ⟨rfl, hb⟩; refine ⟨_, rfl, ?_⟩; have n0_ := Aside0.mk (Kd.V_below (by (with_reducible repeat (first | apply Kd.V_alloc | apply Kd.V_drewN | apply Kd.V_drew)); exact HO0.out) hb); have n1_ := Aside0.mk (below_step (by repeat (first | (with_reducible first | exact HB.out | apply below_alloc | apply pw_below_drewN | apply below_drew1) | exact HB.out)) hb); clear HO0; clear HB; have HO0 := n0_; have HB := n1_; clear n0_ n1_; (try clear hb); (try clear hb2); (try clear hk); (try clear hi)))
       go_meet
       case rel => exact ⟨_, (true), (by first | rfl | (simp; done) | (simp [*]; done)), H', ⟨by first | omega | exact Nat.le_refl _⟩, ⟨by (with_reducible repeat (first | apply Kd.V_alloc | apply Kd.V_drewN | apply Kd.V_drew)); exact HO0.out⟩, ⟨by repeat (first | (with_reducible first | exact HB.out | apply below_alloc | apply pw_below_drewN | apply below_drew1) | exact HB.out)⟩⟩
      ·rw [if_neg c14] at H
       have c14b0 : decide (4611686018427387904 < a2) = false := decide_eq_false c14
       clear c14
       by_cases c16 : a3 < 0
       ·rw [if_pos c16] at H
        have c16b0 : decide (a3 < 0) = true := decide_eq_true c16
        clear c16
        have H' := Aside0.mk H
        clear H
        go_wp2_with (first | ((with_reducible refine gate_callee (f := 15) rfl ?_); refine goesL_ (some 19) rfl rfl Try.func15 (by kernel_rfl) rfl #[.slice A0 l0.length c0] rfl (by (try simp only [List.map_toArray, List.map_cons, List.map_nil]); first | done | rfl | (simp only [List.length_drop, List.length_take]; rfl)) ?_; (with_reducible refine (musterref09_Right.calls k _ _ l0 true _ ?side1 ?side2 A6.out).mono ?_); (case side1 => repeat (first | exact (Kd.V_reads' HO0.out).2.2 | (with_reducible refine Kd.C_alloc ?_ _) | (with_reducible refine Kd.C_drewN ?_ _) | (with_reducible refine Kd.C_drew ?_))); (case side2 => exact (Kd.V_reads' HO0.out).2.1); rintro e w17 ⟨rfl, hb⟩; refine ⟨_, rfl, ?_⟩; have n0_ := Aside0.mk (Kd.V_below (by (with_reducible repeat (first | apply Kd.V_alloc | apply Kd.V_drewN | apply Kd.V_drew)); exact HO0.out) hb); have n1_ := Aside0.mk (below_step (by repeat (first | (with_reducible first | exact HB.out | apply below_alloc | apply pw_below_drewN | apply below_drew1) | exact HB.out)) hb); clear HO0; clear HB; have HO0 := n0_; have HB := n1_; clear n0_ n1_; (try clear hb); (try clear hb2); (try clear hk); (try clear hi)))
        go_meet
        case rel => exact ⟨_, (true), (by first | rfl | (simp; done) | (simp [*]; done)), H', ⟨by first | omega | exact Nat.le_refl _⟩, ⟨by (with_reducible repeat (first | apply Kd.V_alloc | apply Kd.V_drewN | apply Kd.V_drew)); exact HO0.out⟩, ⟨by repeat (first | (with_reducible first | exact HB.out | apply below_alloc | apply pw_below_drewN | apply below_drew1) | exact HB.out)⟩⟩
       ·rw [if_neg c16] at H
        have c16b0 : decide (a3 < 0) = false := decide_eq_false c16
        clear c16
        have H' := Aside0.mk H
        clear H
        go_wp2_with (first | ((with_reducible refine gate_callee (f := 15) rfl ?_); refine goesL_ (some 19) rfl rfl Try.func15 (by kernel_rfl) rfl #[.slice A0 l0.length c0] rfl (by (try simp only [List.map_toArray, List.map_cons, List.map_nil]); first | done | rfl | (simp only [List.length_drop, List.length_take]; rfl)) ?_; (with_reducible refine (musterref09_Right.calls k _ _ l0 true _ ?side1 ?side2 A6.out).mono ?_); (case side1 => repeat (first | exact (Kd.V_reads' HO0.out).2.2 | (with_reducible refine Kd.C_alloc ?_ _) | (with_reducible refine Kd.C_drewN ?_ _) | (with_reducible refine Kd.C_drew ?_))); (case side2 => exact (Kd.V_reads' HO0.out).2.1); rintro e w18 ⟨rfl, hb⟩; refine ⟨_, rfl, ?_⟩; have n0_ := Aside0.mk (Kd.V_below (by (with_reducible repeat (first | apply Kd.V_alloc | apply Kd.V_drewN | apply Kd.V_drew)); exact HO0.out) hb); have n1_ := Aside0.mk (below_step (by repeat (first | (with_reducible first | exact HB.out | apply below_alloc | apply pw_below_drewN | apply below_drew1) | exact HB.out)) hb); clear HO0; clear HB; have HO0 := n0_; have HB := n1_; clear n0_ n1_; (try clear hb); (try clear hb2); (try clear hk); (try clear hi)))
        go_meet
        case rel => exact ⟨_, (decide (a3 ≥ a2)), (by first | rfl | (simp; done) | (simp [*]; done)), H', ⟨by first | omega | exact Nat.le_refl _⟩, ⟨by (with_reducible repeat (first | apply Kd.V_alloc | apply Kd.V_drewN | apply Kd.V_drew)); exact HO0.out⟩, ⟨by repeat (first | (with_reducible first | exact HB.out | apply below_alloc | apply pw_below_drewN | apply below_drew1) | exact HB.out)⟩⟩
  ·replace c7 := Bool.eq_false_iff.mpr c7
   subst c7
   have H1 : (musterref09_Look.j0 k l0 a1 a2 a3 true) = some (r1, r2, r3, r4) := by rw [if_neg (show ¬ (false = true) by decide)] at H; exact H
   clear H
   have H := H1
   clear H1
   have H' := Aside0.mk H
   clear H
   go_wp2_with (first | ((with_reducible refine gate_callee (f := 15) rfl ?_); refine goesL_ (some 19) rfl rfl Try.func15 (by kernel_rfl) rfl #[.slice A0 l0.length c0] rfl (by (try simp only [List.map_toArray, List.map_cons, List.map_nil]); first | done | rfl | (simp only [List.length_drop, List.length_take]; rfl)) ?_; (with_reducible refine (musterref09_Right.calls k _ _ l0 false _ ?side1 ?side2 A6.out).mono ?_); (case side1 => repeat (first | exact (Kd.V_reads' HO0.out).2.2 | (with_reducible refine Kd.C_alloc ?_ _) | (with_reducible refine Kd.C_drewN ?_ _) | (with_reducible refine Kd.C_drew ?_))); (case side2 => exact (Kd.V_reads' HO0.out).2.1); rintro e w19 ⟨rfl, hb⟩; refine ⟨_, rfl, ?_⟩; have n0_ := Aside0.mk (Kd.V_below (by (with_reducible repeat (first | apply Kd.V_alloc | apply Kd.V_drewN | apply Kd.V_drew)); exact HO0.out) hb); have n1_ := Aside0.mk (below_step (by repeat (first | (with_reducible first | exact HB.out | apply below_alloc | apply pw_below_drewN | apply below_drew1) | exact HB.out)) hb); clear HO0; clear HB; have HO0 := n0_; have HB := n1_; clear n0_ n1_; (try clear hb); (try clear hb2); (try clear hk); (try clear hi)))
   go_meet
   case rel => exact ⟨_, (true), (by first | rfl | (simp; done) | (simp [*]; done)), H', ⟨by first | omega | exact Nat.le_refl _⟩, ⟨by (with_reducible repeat (first | apply Kd.V_alloc | apply Kd.V_drewN | apply Kd.V_drew)); exact HO0.out⟩, ⟨by repeat (first | (with_reducible first | exact HB.out | apply below_alloc | apply pw_below_drewN | apply below_drew1) | exact HB.out)⟩⟩
 case rest =>
  clear HC5
  try clear c1
  try clear p2
  try clear c7
  try clear c8
  try clear c8b0
  try clear c10
  try clear c10b0
  try clear c11
  try clear c12
  try clear c12b0
  try clear c14
  try clear c14b0
  try clear c15
  try clear c16
  try clear c16b0
  obtain ⟨kq, x45_4, rfl, HA, HJ4, HO_0, HB⟩ := hcut
  cases kq with
  | zero => exact absurd HA.out (by simp [musterref09_Look.j0])
  | succ kj4 =>
   have H := HA.out
   clear HA
   simp only [musterref09_Look.j0] at H
   by_cases c20 : x45_4 = true
   ·subst c20
    have H1 : (some (([] : List (S44)), 0, ([] : List Int), 2)) = some (r1, r2, r3, r4) := by rw [if_pos rfl] at H; exact H
    clear H
    have H := H1
    clear H1
    simp only [Option.some.injEq, Prod.mk.injEq] at H
    obtain ⟨rfl, rfl, rfl, rfl⟩ := H
    go_wp2
    refine bodyPost_ret (results_list (rs := [.tmp 8, .tmp 9, .tmp 10, .tmp 11]) rfl (by simp) (.tmp (.tmp (.tmp (.tmp .nil))))) rfl ?_
    exact ⟨_, _, by first | rfl | (simp [errW_none, errW_some] <;> rfl) | (simp [*, errW_none, errW_some] <;> rfl), by first | exact Kd.R_nil _ _ _ _ _ | exact Kd.N_nil _ _ _ _ _ | exact Kd.V_nil _ _ _ _ _ | exact Kd.Q_nil _ _ _ _ _ | exact Kd.S_nil _ _ _ _ _, Kd.V_nil _ _ _ _ _, by repeat (first | (with_reducible first | exact HB.out | apply below_alloc | apply pw_below_drewN | apply below_drew1) | exact HB.out)⟩
   ·replace c20 := Bool.eq_false_iff.mpr c20
    subst c20
    have H1 : ((musterref09_find.f kj4 l0 a1).bind fun t215 => (if t215 ≥ 0 then (if 0 ≤ t215 then (if t215 < (l0.length : Int) then (musterref09_Look.j1 kj4 l0 a2 a3 t215 a1 ((rd_T44 l0 t215).f1)) else (none)) else (none)) else (if (l0.length : Int) ≥ 16 then (some (([] : List (S44)), 0, ([] : List Int), 5)) else (musterref09_Look.j1 kj4 l0 a2 a3 t215 a1 0)))) = some (r1, r2, r3, r4) := by rw [if_neg (show ¬ (false = true) by decide)] at H; exact H
    clear H
    have H := H1
    clear H1
    replace H := Option.bind_eq_some_iff.mp H
    obtain ⟨t215, A210, H⟩ := H
    replace H : (if t215 ≥ 0 then (if 0 ≤ t215 then (if t215 < (l0.length : Int) then (musterref09_Look.j1 kj4 l0 a2 a3 t215 a1 ((rd_T44 l0 t215).f1)) else (none)) else (none)) else (if (l0.length : Int) ≥ 16 then (some (([] : List (S44)), 0, ([] : List Int), 5)) else (musterref09_Look.j1 kj4 l0 a2 a3 t215 a1 0))) = some (r1, r2, r3, r4) := H
    have A21 := Aside0.mk A210
    clear A210
    have HC22 := Aside0.mk H
    clear H
    go_upto_if 52 with (first | ((with_reducible refine gate_dst (N := 12) rfl ?_); (try (refine gate_guard (by rfl) ?_; dsimp only)); refine box_event ?hg (N := 12) ?hd (cs := #[.int .i64 0, .int .i64 0, .slice none 0 0]) (t := 44) ?hr ?_; (case hd => rfl); (case hg => rfl); (case hr => first | (go_simp; done) | (go_simp; rfl)); intro gb214 hg w23 hbox hb; have n0_ := Aside0.mk (Kd.V_below (Kd.V_elderB (by (with_reducible repeat (first | apply Kd.V_alloc | apply Kd.V_drewN | apply Kd.V_drew)); exact HO_0.out) gb214 (Nat.le_of_eq hg.symm)) hb); have n1_ := Aside0.mk (below_step (by repeat (first | (with_reducible first | exact HB.out | apply below_alloc | apply pw_below_drewN | apply below_drew1) | exact HB.out)) hb); have n2_ := Aside0.mk (hbox); have n3_ := Aside0.mk ((by rw [hg]; exact (below_size (by repeat (first | (with_reducible first | exact HB.out | apply below_alloc | apply pw_below_drewN | apply below_drew1) | exact HB.out))) : w.heap.size ≤ gb214)); have n4_ := Aside0.mk ((by rw [hg]; exact (below_size (by repeat (first | (with_reducible first | exact HB.out | apply below_alloc | apply pw_below_drewN | apply below_drew1) | exact HB.out))) : w.heap.size ≤ gb214)); clear HO_0; clear HB; have HO_0 := n0_; have HB := n1_; have BK214 := n2_; have GW214 := n3_; have GE214 := n4_; clear n0_ n1_ n2_ n3_ n4_; clear hb hbox hg; have hcz24_0 : w23.cell? ⟨gb214, 0, none⟩ = some (.int .i64 0) := (blk_cell BK214.out 0).trans rfl; have hcz24_1 : w23.cell? ⟨gb214, 1, none⟩ = some (.int .i64 0) := (blk_cell BK214.out 1).trans rfl; have hcz24_2 : w23.cell? ⟨gb214, 2, none⟩ = some (.slice none 0 0) := (blk_cell BK214.out 2).trans rfl; have hfz24_0 := blk_frozen BK214.out 0; have hfz24_1 := blk_frozen BK214.out 1; have hfz24_2 := blk_frozen BK214.out 2) | ((with_reducible refine gate_callee (f := 44) rfl ?_); refine goesL_ (some 50) rfl rfl Try.func44 (by kernel_rfl) rfl #[.slice A0 l0.length c0, .int .i64 a1] rfl (by (try simp only [List.map_toArray, List.map_cons, List.map_nil]); first | done | rfl | (simp only [List.length_drop, List.length_take]; rfl)) ?_; (with_reducible refine (musterref09_find.calls kj4 _ _ l0 a1 t215 _ ?side1 ?side2 A21.out).mono ?_); (case side1 => refine (Kd.V_reads' (e := 44) (base := w.heap.size) (ok := fun k_ => ((P0_ k_ ∨ w.heap.size ≤ k_) ∧ k_ ≠ gb214)) (n := l0.length) (c := c0) ?_).2.2; exact (by (with_reducible repeat (first | apply Kd.V_alloc | apply Kd.V_drewN | apply Kd.V_drew)); exact (Kd.V_mono (Kd.V_far (p := ⟨gb214, 2, none⟩) (Kd.V_far (p := ⟨gb214, 1, none⟩) (Kd.V_far (p := ⟨gb214, 0, none⟩) (Kd.V_mono HO_0.out (fun k_ hk => (⟨hk, hk.2⟩ : _ ∧ k_ ≠ gb214))) (fun _ hk => hk.2) (.int .i64 a1)) (fun _ hk => hk.2) (.int .i64 0)) (fun _ hk => hk.2) (.slice none 0 0)) (fun _ h_ => h_.1)))); (case side2 => exact (Kd.V_reads' HO_0.out).2.1); rintro e w' ⟨rfl, ⟨nd, rfl⟩⟩; refine ⟨_, rfl, ?_⟩))
    (try simp only [Act.put, List.setIfInBounds_toArray, List.set_cons_zero, List.set_cons_succ])
    go_cut [] (fun wc => ∃ (kq : Nat) (x215001_21 : Int), Aside0 (musterref09_Look.j1 kq l0 a2 a3 t215 a1 x215001_21 = some (r1, r2, r3, r4)) ∧ Aside0 (kq ≤ kj4) ∧ Aside0 (Kd.V k44 44 wc w.heap.size (fun k_ => (P0_ k_ ∨ w.heap.size ≤ k_) ∧ k_ ≠ gb214) (.slice A0 l0.length c0) l0) ∧ Aside0 (wc.heap[gb214]? = some (.cells #[.int .i64 a1, .int .i64 x215001_21, (.slice none 0 0)] 44 (0, 0))) ∧ Aside0 (Below w.heap.size w wc))
    case first =>
     have H := HC22.out
     clear HC22
     by_cases c25 : t215 ≥ 0
     ·rw [if_pos c25] at H
      have c25b0 : decide (0 ≤ t215) = true := decide_eq_true c25
      clear c25
      (first | rw [c25b0] | (simp only [i64_w, i32_w]; rw [c25b0]) | skip)
      by_cases c26 : 0 ≤ t215
      ·rw [if_pos c26] at H
       have c26b0 : decide (0 ≤ t215) = true := decide_eq_true c26
       clear c26
       by_cases c27 : t215 < (l0.length : Int)
       ·rw [if_pos c27] at H
        have c27b0 : decide (t215 < (l0.length : Int)) = true := decide_eq_true c27
        clear c27
        have H' := Aside0.mk H
        clear H
        have p216 : 0 ≤ (t215 : Int) := of_decide_eq_true (by first | (with_reducible assumption) | assumption)
        have q216 : t215 < (l0.length : Int) := of_decide_eq_true (by first | (with_reducible assumption) | assumption)
        obtain ⟨ad216, A216_2, c216_2, e216, hx216_0, hx216_1, hx216_2, hl216_2, hi216_2⟩ := at_T44 (Kd.V_reads' HO_0.out).2.2 t215 p216 q216
        cases e216
        have hn216_0 : ad216.block ≠ gb214 := Kd.foot_ne (fun W' hk_ => (Kd.V_reads' (Kd.V_keep HO_0.out hk_ (fun _ h_ => h_.2))).2.2) (by omega) (by decide)
        have hn216_1 : ad216.block ≠ gb214 := Kd.foot_ne (fun W' hk_ => (Kd.V_reads' (Kd.V_keep HO_0.out hk_ (fun _ h_ => h_.2))).2.2) (by omega) (by decide)
        have hn216_2 : ad216.block ≠ gb214 := Kd.foot_ne (fun W' hk_ => (Kd.V_reads' (Kd.V_keep HO_0.out hk_ (fun _ h_ => h_.2))).2.2) (by omega) (by decide)
        have HR216_2 := Aside0.mk hi216_2
        have HC216_2 := Aside0.mk hl216_2
        clear hi216_2 hl216_2
        replace hx216_0 := (cell_far (p := ⟨gb214, 0, none⟩) (by first | (rw [add_block]; exact hn216_0) | (show (Addr.add _ _).block ≠ _; rw [add_block]; exact hn216_0) | exact hn216_0) (.int .i64 a1)).trans hx216_0
        replace hx216_1 := (cell_far (p := ⟨gb214, 0, none⟩) (by first | (rw [add_block]; exact hn216_0) | (show (Addr.add _ _).block ≠ _; rw [add_block]; exact hn216_0) | exact hn216_0) (.int .i64 a1)).trans hx216_1
        replace hx216_2 := (cell_far (p := ⟨gb214, 0, none⟩) (by first | (rw [add_block]; exact hn216_0) | (show (Addr.add _ _).block ≠ _; rw [add_block]; exact hn216_0) | exact hn216_0) (.int .i64 a1)).trans hx216_2
        replace hx216_0 := (cell_far (p := ⟨gb214, 1, none⟩) (by first | (rw [add_block]; exact hn216_1) | (show (Addr.add _ _).block ≠ _; rw [add_block]; exact hn216_1) | exact hn216_1) (.int .i64 0)).trans hx216_0
        replace hx216_1 := (cell_far (p := ⟨gb214, 1, none⟩) (by first | (rw [add_block]; exact hn216_1) | (show (Addr.add _ _).block ≠ _; rw [add_block]; exact hn216_1) | exact hn216_1) (.int .i64 0)).trans hx216_1
        replace hx216_2 := (cell_far (p := ⟨gb214, 1, none⟩) (by first | (rw [add_block]; exact hn216_1) | (show (Addr.add _ _).block ≠ _; rw [add_block]; exact hn216_1) | exact hn216_1) (.int .i64 0)).trans hx216_2
        replace hx216_0 := (cell_far (p := ⟨gb214, 2, none⟩) (by first | (rw [add_block]; exact hn216_2) | (show (Addr.add _ _).block ≠ _; rw [add_block]; exact hn216_2) | exact hn216_2) (.slice none 0 0)).trans hx216_0
        replace hx216_1 := (cell_far (p := ⟨gb214, 2, none⟩) (by first | (rw [add_block]; exact hn216_2) | (show (Addr.add _ _).block ≠ _; rw [add_block]; exact hn216_2) | exact hn216_2) (.slice none 0 0)).trans hx216_1
        replace hx216_2 := (cell_far (p := ⟨gb214, 2, none⟩) (by first | (rw [add_block]; exact hn216_2) | (show (Addr.add _ _).block ≠ _; rw [add_block]; exact hn216_2) | exact hn216_2) (.slice none 0 0)).trans hx216_2
        clear hn216_0
        clear hn216_1
        clear hn216_2
        replace p216 := eq_true p216
        replace q216 := eq_true q216
        have hcz28_0 : w23.cell? ⟨gb214, 0, none⟩ = some (.int .i64 0) := (blk_cell BK214.out 0).trans rfl
        have hcz28_1 : w23.cell? ⟨gb214, 1, none⟩ = some (.int .i64 0) := (blk_cell BK214.out 1).trans rfl
        have hcz28_2 : w23.cell? ⟨gb214, 2, none⟩ = some (.slice none 0 0) := (blk_cell BK214.out 2).trans rfl
        have hfz28_0 := blk_frozen BK214.out 0
        have hfz28_1 := blk_frozen BK214.out 1
        have hfz28_2 := blk_frozen BK214.out 2
        go_wp2
        go_meet
        case rel => exact ⟨_, ((rd_T44 l0 t215).f1), H', ⟨by have := HJ4.out; first | omega | exact Nat.le_refl _⟩, ⟨by (with_reducible repeat (first | apply Kd.V_alloc | apply Kd.V_drewN | apply Kd.V_drew)); exact Kd.V_mono (Kd.V_far (p := ⟨gb214, 1, none⟩) (Kd.V_far (p := ⟨gb214, 2, none⟩) (Kd.V_far (p := ⟨gb214, 1, none⟩) (Kd.V_far (p := ⟨gb214, 0, none⟩) (Kd.V_mono HO_0.out (fun k_ hk => (⟨hk, hk.2⟩ : _ ∧ k_ ≠ gb214))) (fun _ hk => hk.2) (.int .i64 a1)) (fun _ hk => hk.2) (.int .i64 0)) (fun _ hk => hk.2) (.slice none 0 0)) (fun _ hk => hk.2) (.int .i64 ((rd_T44 l0 t215).f1))) (fun _ hk => ⟨hk.1.1, hk.1.2⟩)⟩, ⟨by (with_reducible repeat (first | refine blk_drewN ?_ _ | refine blk_drew ?_ | refine blk_alloc ?_ _)); refine blk_put (cs := #[.int .i64 a1, .int .i64 0, .slice none 0 0]) ?_ 1 _ rfl; (with_reducible repeat (first | refine blk_drewN ?_ _ | refine blk_drew ?_ | refine blk_alloc ?_ _)); refine blk_put (cs := #[.int .i64 a1, .int .i64 0, .slice none 0 0]) ?_ 2 _ rfl; (with_reducible repeat (first | refine blk_drewN ?_ _ | refine blk_drew ?_ | refine blk_alloc ?_ _)); refine blk_put (cs := #[.int .i64 a1, .int .i64 0, .slice none 0 0]) ?_ 1 _ rfl; (with_reducible repeat (first | refine blk_drewN ?_ _ | refine blk_drew ?_ | refine blk_alloc ?_ _)); refine blk_put (cs := #[.int .i64 0, .int .i64 0, .slice none 0 0]) ?_ 0 _ rfl; (with_reducible repeat (first | refine blk_drewN ?_ _ | refine blk_drew ?_ | refine blk_alloc ?_ _)); exact BK214.out⟩, ⟨by repeat (first | (with_reducible first | exact HB.out | apply below_alloc | apply pw_below_drewN | apply below_drew1 | refine below_set ?_ GE214.out) | exact HB.out)⟩⟩
       ·rw [if_neg c27] at H
        exact absurd H (by simp)
      ·rw [if_neg c26] at H
       exact absurd H (by simp)
     ·rw [if_neg c25] at H
      have c25b0 : decide (0 ≤ t215) = false := decide_eq_false c25
      clear c25
      (first | rw [c25b0] | (simp only [i64_w, i32_w]; rw [c25b0]) | skip)
      by_cases c29 : (l0.length : Int) ≥ 16
      ·rw [if_pos c29] at H
       have c29b0 : decide (16 ≤ (l0.length : Int)) = true := decide_eq_true c29
       have c29b1 : decide (16 ≤ l0.length) = true := decide_eq_true (by omega)
       clear c29
       simp only [Option.some.injEq, Prod.mk.injEq] at H
       obtain ⟨rfl, rfl, rfl, rfl⟩ := H
       go_wp2
       refine bodyPost_ret (results_list (rs := [.tmp 8, .tmp 9, .tmp 10, .tmp 11]) rfl (by simp) (.tmp (.tmp (.tmp (.tmp .nil))))) rfl ?_
       exact ⟨_, _, by first | rfl | (simp [errW_none, errW_some] <;> rfl) | (simp [*, errW_none, errW_some] <;> rfl), by first | exact Kd.R_nil _ _ _ _ _ | exact Kd.N_nil _ _ _ _ _ | exact Kd.V_nil _ _ _ _ _ | exact Kd.Q_nil _ _ _ _ _ | exact Kd.S_nil _ _ _ _ _, Kd.V_nil _ _ _ _ _, by repeat (first | (with_reducible first | exact HB.out | apply below_alloc | apply pw_below_drewN | apply below_drew1 | refine below_set ?_ GE214.out) | exact HB.out)⟩
      ·rw [if_neg c29] at H
       have c29b0 : decide (16 ≤ (l0.length : Int)) = false := decide_eq_false c29
       have c29b1 : decide (16 ≤ l0.length) = false := decide_eq_false (by omega)
       clear c29
       have H' := Aside0.mk H
       clear H
       go_wp2
       go_meet
       case rel => exact ⟨_, (0), H', ⟨by have := HJ4.out; first | omega | exact Nat.le_refl _⟩, ⟨by (with_reducible repeat (first | apply Kd.V_alloc | apply Kd.V_drewN | apply Kd.V_drew)); exact Kd.V_mono (Kd.V_far (p := ⟨gb214, 2, none⟩) (Kd.V_far (p := ⟨gb214, 1, none⟩) (Kd.V_far (p := ⟨gb214, 0, none⟩) (Kd.V_mono HO_0.out (fun k_ hk => (⟨hk, hk.2⟩ : _ ∧ k_ ≠ gb214))) (fun _ hk => hk.2) (.int .i64 a1)) (fun _ hk => hk.2) (.int .i64 0)) (fun _ hk => hk.2) (.slice none 0 0)) (fun _ hk => ⟨hk.1.1, hk.1.2⟩)⟩, ⟨by (with_reducible repeat (first | refine blk_drewN ?_ _ | refine blk_drew ?_ | refine blk_alloc ?_ _)); refine blk_put (cs := #[.int .i64 a1, .int .i64 0, .slice none 0 0]) ?_ 2 _ rfl; (with_reducible repeat (first | refine blk_drewN ?_ _ | refine blk_drew ?_ | refine blk_alloc ?_ _)); refine blk_put (cs := #[.int .i64 a1, .int .i64 0, .slice none 0 0]) ?_ 1 _ rfl; (with_reducible repeat (first | refine blk_drewN ?_ _ | refine blk_drew ?_ | refine blk_alloc ?_ _)); refine blk_put (cs := #[.int .i64 0, .int .i64 0, .slice none 0 0]) ?_ 0 _ rfl; (with_reducible repeat (first | refine blk_drewN ?_ _ | refine blk_drew ?_ | refine blk_alloc ?_ _)); exact BK214.out⟩, ⟨by repeat (first | (with_reducible first | exact HB.out | apply below_alloc | apply pw_below_drewN | apply below_drew1 | refine below_set ?_ GE214.out) | exact HB.out)⟩⟩
    case rest =>
     clear HC22
     try clear c1
     try clear c2
     try clear p2
     try clear q2
     try clear hx2
     try clear c4
     try clear c7
     try clear c8
     try clear c8b0
     try clear c10
     try clear c10b0
     try clear c11
     try clear c12
     try clear c12b0
     try clear c14
     try clear c14b0
     try clear c15
     try clear c16
     try clear c16b0
     try clear c20
     try clear c21
     try clear p21
     try clear q21
     try clear hx21
     try clear c25
     try clear c25b0
     try clear c26
     try clear c26b0
     try clear c27
     try clear c27b0
     try clear c29
     try clear c29b0
     try clear c29b1
     try clear hcz24_0
     try clear hcz24_1
     try clear hcz24_2
     try clear hcz28_0
     try clear hcz28_1
     try clear hcz28_2
     try clear hfz24_0
     try clear hfz24_1
     try clear hfz24_2
     try clear hfz28_0
     try clear hfz28_1
     try clear hfz28_2
     try clear hx216_0
     try clear hx216_1
     try clear hx216_2
     try clear p2
     try clear p216
     try clear q216
     obtain ⟨kq, x215001_21, HA, HJ21, HO_0, BK214, HB⟩ := hcut
     cases kq with
     | zero => exact absurd HA.out (by simp [musterref09_Look.j1])
     | succ kj21 =>
      have H := HA.out
      clear HA
      simp only [musterref09_Look.j1] at H
      obtain ⟨ji30, hji30⟩ : ∃ j_ : Int, (mx x215001_21 a3) = j_ := ⟨_, rfl⟩
      replace H : (musterref09_Look.l0 kj21 l0 a2 t215 1 ([] : List Int) 0 a1 ji30 ([] : List (S46))) = some (r1, r2, r3, r4) := by first | (rw [hji30] at H; exact H) | (simp only [hji30] at H ⊢; exact H)
      have hji30_ : (if x215001_21 < a3 then a3 else x215001_21) = ji30 := hji30
      have H' := Aside0.mk H
      clear H
      have hcz31_0 : wc.cell? ⟨gb214, 0, none⟩ = some (.int .i64 a1) := (blk_cell BK214.out 0).trans rfl
      have hcz31_1 : wc.cell? ⟨gb214, 1, none⟩ = some (.int .i64 x215001_21) := (blk_cell BK214.out 1).trans rfl
      have hcz31_2 : wc.cell? ⟨gb214, 2, none⟩ = some (.slice none 0 0) := (blk_cell BK214.out 2).trans rfl
      have hfz31_0 := blk_frozen BK214.out 0
      have hfz31_1 := blk_frozen BK214.out 1
      have hfz31_2 := blk_frozen BK214.out 2
      go_wp2
      go_loopg [14, 15, 16] kj21 (fun kq v14 v15 v16 w' => ∃ (x14_3 : Int) (x15_3 : List Int) (x16_3 : Int) (x215002_3 : List (S46)) (u215002 : Value), v14 = .int .u8 x14_3 ∧ v16 = .int .i64 x16_3 ∧ Aside0 (musterref09_Look.l0 kq l0 a2 t215 x14_3 x15_3 x16_3 a1 ji30 x215002_3 = some (r1, r2, r3, r4)) ∧ Aside0 (kq ≤ kj21) ∧ Aside0 (Kd.V k44 44 w' w.heap.size (fun k_ => (P0_ k_ ∨ w.heap.size ≤ k_) ∧ some k_ ≠ (u215002 : Value).ownBlock ∧ k_ ≠ gb214) (.slice A0 l0.length c0) l0) ∧ Aside0 (Kd.V (Kd.int .u8) 5 w' w.heap.size (fun k_ => (P0_ k_ ∨ w.heap.size ≤ k_) ∧ some k_ ≠ (u215002 : Value).ownBlock ∧ k_ ≠ gb214) v15 x15_3) ∧ Aside0 (Kd.N k46 46 w' w.heap.size (fun k_ => (P0_ k_ ∨ w.heap.size ≤ k_) ∧ k_ ≠ gb214) u215002 x215002_3) ∧ Aside0 (w'.heap[gb214]? = some (.cells #[.int .i64 a1, .int .i64 ji30, u215002] 44 (0, 0))) ∧ Aside0 (Below w.heap.size w w'))
      case atStart => exact ⟨(1), (([] : List Int)), (0), (([] : List (S46))), (.slice none 0 0), (by first | rfl | (simp; done) | (simp [*]; done)), (by first | rfl | (simp; done) | (simp [*]; done)), H', ⟨Nat.le_refl _⟩, ⟨by (with_reducible repeat (first | apply Kd.V_alloc | apply Kd.V_drewN | apply Kd.V_drew)); exact Kd.V_mono (Kd.V_far (p := ⟨gb214, 1, none⟩) (Kd.V_mono HO_0.out (fun k_ hk => (⟨hk, hk.2⟩ : _ ∧ k_ ≠ gb214))) (fun _ hk => hk.2) (.int .i64 ji30)) (fun _ hk => ⟨hk.1.1, ⟨(by simp [Value.ownBlock]), hk.1.2⟩⟩)⟩, ⟨Kd.V_nil _ _ _ _ _⟩, ⟨by first | exact Kd.S_nil _ _ _ _ _ | exact Kd.N_nil _ _ _ _ _ | exact Kd.V_nil _ _ _ _ _ | exact Kd.Q_nil _ _ _ _ _ | exact Kd.R_nil _ _ _ _ _⟩, ⟨by (with_reducible repeat (first | refine blk_drewN ?_ _ | refine blk_drew ?_ | refine blk_alloc ?_ _)); refine blk_put (cs := #[.int .i64 a1, .int .i64 x215001_21, .slice none 0 0]) ?_ 1 _ rfl; (with_reducible repeat (first | refine blk_drewN ?_ _ | refine blk_drew ?_ | refine blk_alloc ?_ _)); exact BK214.out⟩, ⟨by repeat (first | (with_reducible first | exact HB.out | apply below_alloc | apply pw_below_drewN | apply below_drew1 | refine below_set ?_ GE214.out) | exact HB.out)⟩⟩
      case round =>
       clear H'
       try clear c1
       try clear c2
       try clear p2
       try clear q2
       try clear hx2
       try clear c4
       try clear c7
       try clear c8
       try clear c8b0
       try clear c10
       try clear c10b0
       try clear c11
       try clear c12
       try clear c12b0
       try clear c14
       try clear c14b0
       try clear c15
       try clear c16
       try clear c16b0
       try clear c20
       try clear c21
       try clear p21
       try clear q21
       try clear hx21
       try clear c25
       try clear c25b0
       try clear c26
       try clear c26b0
       try clear c27
       try clear c27b0
       try clear c29
       try clear c29b0
       try clear c29b1
       try clear hcz24_0
       try clear hcz24_1
       try clear hcz24_2
       try clear hcz28_0
       try clear hcz28_1
       try clear hcz28_2
       try clear hcz31_0
       try clear hcz31_1
       try clear hcz31_2
       try clear hfz24_0
       try clear hfz24_1
       try clear hfz24_2
       try clear hfz28_0
       try clear hfz28_1
       try clear hfz28_2
       try clear hfz31_0
       try clear hfz31_1
       try clear hfz31_2
       try clear hx216_0
       try clear hx216_1
       try clear hx216_2
       try clear p2
       try clear p21
       try clear p216
       try clear q2
       try clear q21
       try clear q216
       obtain ⟨x14_3, x15_3, x16_3, x215002_3, u215002, rfl, rfl, HA, HK3, HO_0, HO_15, HO_215002, BK214, HB⟩ := hrel
       cases gk with
       | zero => exact absurd HA.out (by simp [musterref09_Look.l0])
       | succ k3 =>
        have H := HA.out
        clear HA
        simp only [musterref09_Look.l0] at H
        have HC32 := Aside0.mk H
        clear H
        go_upto_region 13 with (fail)
        go_cut [78] (fun v78 wc => ∃ (kq : Nat) (x78_31 : Bool), v78 = .bool x78_31 ∧ Aside0 (musterref09_Look.j3 kq l0 a2 t215 x14_3 x15_3 x16_3 x78_31 a1 ji30 x215002_3 = some (r1, r2, r3, r4)) ∧ Aside0 (kq ≤ k3) ∧ Aside0 (Kd.V k44 44 wc w.heap.size (fun k_ => (P0_ k_ ∨ w.heap.size ≤ k_) ∧ some k_ ≠ (u215002 : Value).ownBlock ∧ k_ ≠ gb214) (.slice A0 l0.length c0) l0) ∧ Aside0 (Kd.V (Kd.int .u8) 5 wc w.heap.size (fun k_ => (P0_ k_ ∨ w.heap.size ≤ k_) ∧ some k_ ≠ (u215002 : Value).ownBlock ∧ k_ ≠ gb214) u15 x15_3) ∧ Aside0 (Kd.N k46 46 wc w.heap.size (fun k_ => (P0_ k_ ∨ w.heap.size ≤ k_) ∧ k_ ≠ gb214) u215002 x215002_3) ∧ Aside0 (wc.heap[gb214]? = some (.cells #[.int .i64 a1, .int .i64 ji30, u215002] 44 (0, 0))) ∧ Aside0 (Below w.heap.size w wc))
        case first =>
         have H := HC32.out
         clear HC32
         by_cases c33 : t215 ≥ 0
         ·rw [if_pos c33] at H
          have c33b0 : decide (0 ≤ t215) = true := decide_eq_true c33
          clear c33
          (first | rw [c33b0] | (simp only [i64_w, i32_w]; rw [c33b0]) | skip)
          by_cases c34 : 0 ≤ t215
          ·rw [if_pos c34] at H
           have c34b0 : decide (0 ≤ t215) = true := decide_eq_true c34
           clear c34
           by_cases c35 : t215 < (l0.length : Int)
           ·rw [if_pos c35] at H
            have c35b0 : decide (t215 < (l0.length : Int)) = true := decide_eq_true c35
            clear c35
            have H' := Aside0.mk H
            clear H
            have p217 : 0 ≤ (t215 : Int) := of_decide_eq_true (by first | (with_reducible assumption) | assumption)
            have q217 : t215 < (l0.length : Int) := of_decide_eq_true (by first | (with_reducible assumption) | assumption)
            obtain ⟨ad217, A217_2, c217_2, e217, hx217_0, hx217_1, hx217_2, hl217_2, hi217_2⟩ := at_T44 (Kd.V_reads' HO_0.out).2.2 t215 p217 q217
            cases e217
            obtain ⟨ce217, hce217, hMe217, hcc217⟩ := Kd.V_get HO_0.out z44 t215 p217 (by first | exact q217 | exact of_decide_eq_true (by first | (with_reducible assumption) | assumption) | (have e_ := (Kd.V_reads' HO_0.out).1; omega))
            obtain ⟨ua217_2, uc217_2, rfl, ul217_2, ge217_2⟩ := k44_openF hMe217
            have hv217_2 := hcc217 2 _ rfl
            rw [add_field _ _ 2 (by omega)] at hv217_2
            replace hv217_2 := Option.some.inj (hv217_2.symm.trans hx217_2)
            injection hv217_2 with hva_ hvn_ hvc_
            rw [hva_] at ge217_2
            rw [hvc_] at ul217_2
            have HL217_2 := Aside0.mk (show Kd.V k46 46 _ w.heap.size _ _ ((rd_T44 l0 t215).f2) from Kd.V_mk ul217_2 ge217_2)
            clear hva_ hvn_ hvc_ ge217_2 ul217_2
            clear hcc217 hce217
            have HR217_2 := Aside0.mk hi217_2
            have HC217_2 := Aside0.mk hl217_2
            clear hi217_2 hl217_2
            replace p217 := eq_true p217
            replace q217 := eq_true q217
            go_wp2
            go_meet
            case rel => exact ⟨_, (decide (x16_3 < (((rd_T44 l0 t215).f2).length : Int))), (by first | rfl | (simp; done) | (simp [*]; done)), H', ⟨by have := HJ4.out; have := HJ21.out; have := HK3.out; first | omega | exact Nat.le_refl _⟩, ⟨by (with_reducible repeat (first | apply Kd.V_alloc | apply Kd.V_drewN | apply Kd.V_drew)); exact HO_0.out⟩, ⟨by (with_reducible repeat (first | apply Kd.V_alloc | apply Kd.V_drewN | apply Kd.V_drew)); exact HO_15.out⟩, ⟨by (with_reducible repeat (first | apply Kd.N_alloc | apply Kd.N_drewN | apply Kd.N_drew)); exact HO_215002.out⟩, ⟨by (with_reducible repeat (first | refine blk_drewN ?_ _ | refine blk_drew ?_ | refine blk_alloc ?_ _)); exact BK214.out⟩, ⟨by repeat (first | (with_reducible first | exact HB.out | apply below_alloc | apply pw_below_drewN | apply below_drew1 | refine below_set ?_ GE214.out) | exact HB.out)⟩⟩
           ·rw [if_neg c35] at H
            exact absurd H (by simp)
          ·rw [if_neg c34] at H
           exact absurd H (by simp)
         ·rw [if_neg c33] at H
          have c33b0 : decide (0 ≤ t215) = false := decide_eq_false c33
          clear c33
          (first | rw [c33b0] | (simp only [i64_w, i32_w]; rw [c33b0]) | skip)
          have H' := Aside0.mk H
          clear H
          go_wp2
          go_meet
          case rel => exact ⟨_, (false), (by first | rfl | (simp; done) | (simp [*]; done)), H', ⟨by have := HJ4.out; have := HJ21.out; have := HK3.out; first | omega | exact Nat.le_refl _⟩, ⟨by (with_reducible repeat (first | apply Kd.V_alloc | apply Kd.V_drewN | apply Kd.V_drew)); exact HO_0.out⟩, ⟨by (with_reducible repeat (first | apply Kd.V_alloc | apply Kd.V_drewN | apply Kd.V_drew)); exact HO_15.out⟩, ⟨by (with_reducible repeat (first | apply Kd.N_alloc | apply Kd.N_drewN | apply Kd.N_drew)); exact HO_215002.out⟩, ⟨by (with_reducible repeat (first | refine blk_drewN ?_ _ | refine blk_drew ?_ | refine blk_alloc ?_ _)); exact BK214.out⟩, ⟨by repeat (first | (with_reducible first | exact HB.out | apply below_alloc | apply pw_below_drewN | apply below_drew1 | refine below_set ?_ GE214.out) | exact HB.out)⟩⟩
        case rest =>
         clear HC32
         try clear c1
         try clear c2
         try clear p2
         try clear q2
         try clear hx2
         try clear c3
         try clear c4
         try clear c7
         try clear c8
         try clear c8b0
         try clear c10
         try clear c10b0
         try clear c11
         try clear c12
         try clear c12b0
         try clear c14
         try clear c14b0
         try clear c15
         try clear c16
         try clear c16b0
         try clear c20
         try clear c21
         try clear p21
         try clear q21
         try clear hx21
         try clear c25
         try clear c25b0
         try clear c26
         try clear c26b0
         try clear c27
         try clear c27b0
         try clear c29
         try clear c29b0
         try clear c29b1
         try clear c33
         try clear c33b0
         try clear c34
         try clear c34b0
         try clear c35
         try clear c35b0
         try clear hcz24_0
         try clear hcz24_1
         try clear hcz24_2
         try clear hcz28_0
         try clear hcz28_1
         try clear hcz28_2
         try clear hcz31_0
         try clear hcz31_1
         try clear hcz31_2
         try clear hfz24_0
         try clear hfz24_1
         try clear hfz24_2
         try clear hfz28_0
         try clear hfz28_1
         try clear hfz28_2
         try clear hfz31_0
         try clear hfz31_1
         try clear hfz31_2
         try clear hx216_0
         try clear hx216_1
         try clear hx216_2
         try clear hx217_0
         try clear hx217_1
         try clear hx217_2
         try clear p2
         try clear p21
         try clear p216
         try clear p217
         try clear q2
         try clear q21
         try clear q216
         try clear q217
         obtain ⟨kq, x78_31, rfl, HA, HJ31, HO_0, HO_15, HO_215002, BK214, HB⟩ := hcut
         cases kq with
         | zero => exact absurd HA.out (by simp [musterref09_Look.j3])
         | succ kj31 =>
          have H := HA.out
          clear HA
          simp only [musterref09_Look.j3] at H
          by_cases c36 : x78_31 = true
          ·subst c36
           have H1 : (if 0 ≤ t215 then (if t215 < (l0.length : Int) then (if 0 ≤ x16_3 then (if x16_3 < (((rd_T44 l0 t215).f2).length : Int) then (if ((rd_T46 ((rd_T44 l0 t215).f2) x16_3).f0) > ji30 then (if x215002_3.length < 4398046511104 then ((some (x215002_3 ++ [(⟨(rd_T46 ((rd_T44 l0 t215).f2) x16_3).f0, (rd_T46 ((rd_T44 l0 t215).f2) x16_3).f1⟩ : S46)] : List (S46))).bind fun y221 => (if ((rd_T46 ((rd_T44 l0 t215).f2) x16_3).f0) = a2 then (musterref09_Look.l0 kj31 l0 a2 t215 2 ((rd_T46 ((rd_T44 l0 t215).f2) x16_3).f1) (wrap64 (x16_3 + 1)) a1 ji30 y221) else (musterref09_Look.l0 kj31 l0 a2 t215 x14_3 x15_3 (wrap64 (x16_3 + 1)) a1 ji30 y221))) else (none)) else (if ((rd_T46 ((rd_T44 l0 t215).f2) x16_3).f0) = a2 then (musterref09_Look.l0 kj31 l0 a2 t215 2 ((rd_T46 ((rd_T44 l0 t215).f2) x16_3).f1) (wrap64 (x16_3 + 1)) a1 ji30 x215002_3) else (musterref09_Look.l0 kj31 l0 a2 t215 x14_3 x15_3 (wrap64 (x16_3 + 1)) a1 ji30 x215002_3))) else (none)) else (none)) else (none)) else (none)) = some (r1, r2, r3, r4) := by rw [if_pos rfl] at H; exact H
           clear H
           have H := H1
           clear H1
           by_cases c37 : 0 ≤ t215
           ·rw [if_pos c37] at H
            have c37b0 : decide (0 ≤ t215) = true := decide_eq_true c37
            clear c37
            by_cases c38 : t215 < (l0.length : Int)
            ·rw [if_pos c38] at H
             have c38b0 : decide (t215 < (l0.length : Int)) = true := decide_eq_true c38
             clear c38
             by_cases c39 : 0 ≤ x16_3
             ·rw [if_pos c39] at H
              have c39b0 : decide (0 ≤ x16_3) = true := decide_eq_true c39
              clear c39
              by_cases c40 : x16_3 < (((rd_T44 l0 t215).f2).length : Int)
              ·rw [if_pos c40] at H
               have c40b0 : decide (x16_3 < (((rd_T44 l0 t215).f2).length : Int)) = true := decide_eq_true c40
               clear c40
               by_cases c41 : ((rd_T46 ((rd_T44 l0 t215).f2) x16_3).f0) > ji30
               ·rw [if_pos c41] at H
                have c41b0 : decide (ji30 < ((rd_T46 ((rd_T44 l0 t215).f2) x16_3).f0)) = true := decide_eq_true c41
                clear c41
                by_cases c42 : x215002_3.length < 4398046511104
                ·rw [if_pos c42] at H
                 have LMc42 := Aside0.mk c42
                 clear c42
                 obtain ⟨y221, hy221⟩ : ∃ y_ : List (S46), y_ = (x215002_3 ++ [(⟨(rd_T46 ((rd_T44 l0 t215).f2) x16_3).f0, (rd_T46 ((rd_T44 l0 t215).f2) x16_3).f1⟩ : S46)]) := ⟨_, rfl⟩
                 replace H : (if ((rd_T46 ((rd_T44 l0 t215).f2) x16_3).f0) = a2 then (musterref09_Look.l0 kj31 l0 a2 t215 2 ((rd_T46 ((rd_T44 l0 t215).f2) x16_3).f1) (wrap64 (x16_3 + 1)) a1 ji30 y221) else (musterref09_Look.l0 kj31 l0 a2 t215 x14_3 x15_3 (wrap64 (x16_3 + 1)) a1 ji30 y221)) = some (r1, r2, r3, r4) := by first | (rw [hy221]; with_reducible exact H) | (have H2_ := (Option.bind_some _ _).symm.trans H; rw [hy221]; with_reducible exact H2_) | (have H2_ := (Option.bind_some _ _).symm.trans H; with_reducible exact H2_) | with_reducible exact H | (rw [hy221]; exact H) | exact H
                 have Ny221 := Aside0.mk hy221
                 clear hy221
                 by_cases c43 : ((rd_T46 ((rd_T44 l0 t215).f2) x16_3).f0) = a2
                 ·rw [if_pos c43] at H
                  have c43b0 : (((rd_T46 ((rd_T44 l0 t215).f2) x16_3).f0) == a2) = true := beq_iff_eq.mpr c43
                  have c43b1 : (((rd_T46 ((rd_T44 l0 t215).f2) x16_3).f0) != a2) = false := bne_eq_false_iff_eq.mpr c43
                  clear c43
                  have H' := Aside0.mk H
                  clear H
                  have p218 : 0 ≤ (t215 : Int) := of_decide_eq_true (by first | (with_reducible assumption) | assumption)
                  have q218 : t215 < (l0.length : Int) := of_decide_eq_true (by first | (with_reducible assumption) | assumption)
                  obtain ⟨ad218, A218_2, c218_2, e218, hx218_0, hx218_1, hx218_2, hl218_2, hi218_2⟩ := at_T44 (Kd.V_reads' HO_0.out).2.2 t215 p218 q218
                  cases e218
                  obtain ⟨ce218, hce218, hMe218, hcc218⟩ := Kd.V_get HO_0.out z44 t215 p218 (by first | exact q218 | exact of_decide_eq_true (by first | (with_reducible assumption) | assumption) | (have e_ := (Kd.V_reads' HO_0.out).1; omega))
                  obtain ⟨ua218_2, uc218_2, rfl, ul218_2, ge218_2⟩ := k44_openF hMe218
                  have hv218_2 := hcc218 2 _ rfl
                  rw [add_field _ _ 2 (by omega)] at hv218_2
                  replace hv218_2 := Option.some.inj (hv218_2.symm.trans hx218_2)
                  injection hv218_2 with hva_ hvn_ hvc_
                  rw [hva_] at ge218_2
                  rw [hvc_] at ul218_2
                  have HL218_2 := Aside0.mk (show Kd.V k46 46 _ w.heap.size _ _ ((rd_T44 l0 t215).f2) from Kd.V_mk ul218_2 ge218_2)
                  clear hva_ hvn_ hvc_ ge218_2 ul218_2
                  clear hcc218 hce218
                  have HR218_2 := Aside0.mk hi218_2
                  have HC218_2 := Aside0.mk hl218_2
                  clear hi218_2 hl218_2
                  replace p218 := eq_true p218
                  replace q218 := eq_true q218
                  have p219 : 0 ≤ (x16_3 : Int) := of_decide_eq_true (by first | (with_reducible assumption) | assumption)
                  have q219 : x16_3 < (((rd_T44 l0 t215).f2).length : Int) := of_decide_eq_true (by first | (with_reducible assumption) | assumption)
                  obtain ⟨ad219, A219_1, c219_1, e219, hx219_0, hx219_1, hl219_1, hi219_1⟩ := at_T46 (by repeat (first | (with_reducible exact HR218_2.out) | (with_reducible refine Kd.C_alloc ?_ _) | (with_reducible refine Kd.C_drewN ?_ _) | (with_reducible refine Kd.C_drew ?_) | exact HR218_2.out)) x16_3 p219 q219
                  cases e219
                  obtain ⟨ce219, hce219, hMe219, hcc219⟩ := Kd.V_get HL218_2.out z46 x16_3 p219 (by first | exact q219 | exact of_decide_eq_true (by first | (with_reducible assumption) | assumption) | (have e_ := (Kd.V_reads' HL218_2.out).1; omega))
                  obtain ⟨ua219_1, uc219_1, rfl, ul219_1, ge219_1⟩ := k46_openF hMe219
                  have hv219_1 := hcc219 1 _ rfl
                  rw [add_field _ _ 1 (by omega)] at hv219_1
                  replace hv219_1 := Option.some.inj (hv219_1.symm.trans hx219_1)
                  injection hv219_1 with hva_ hvn_ hvc_
                  rw [hva_] at ge219_1
                  rw [hvc_] at ul219_1
                  have HL219_1 := Aside0.mk (show Kd.V (Kd.int .u8) 5 _ w.heap.size _ _ ((rd_T46 ((rd_T44 l0 t215).f2) x16_3).f1) from Kd.V_mk ul219_1 ge219_1)
                  clear hva_ hvn_ hvc_ ge219_1 ul219_1
                  clear hcc219 hce219
                  have HR219_1 := Aside0.mk hi219_1
                  have HC219_1 := Aside0.mk hl219_1
                  clear hi219_1 hl219_1
                  replace p219 := eq_true p219
                  replace q219 := eq_true q219
                  go_wp2_with (first | ((with_reducible refine gate_dst (N := 17) rfl ?_); (try (refine gate_guard (by rfl) ?_; dsimp only)); refine box_event ?hg (N := 17) ?hd (cs := #[.int .i64 0, .slice none 0 0]) (t := 46) ?hr ?_; (case hd => rfl); (case hg => rfl); (case hr => first | (go_simp; done) | (go_simp; rfl)); intro gb220 hg w44 hbox hb; have n0_ := Aside0.mk (Kd.V_below (Kd.V_elderB (by (with_reducible repeat (first | apply Kd.V_alloc | apply Kd.V_drewN | apply Kd.V_drew)); exact HO_0.out) gb220 (Nat.le_of_eq hg.symm)) hb); have n1_ := Aside0.mk (Kd.V_below (Kd.V_elderB (by (with_reducible repeat (first | apply Kd.V_alloc | apply Kd.V_drewN | apply Kd.V_drew)); exact HO_15.out) gb220 (Nat.le_of_eq hg.symm)) hb); have n2_ := Aside0.mk (Kd.N_below (Kd.N_elderB (by (with_reducible repeat (first | apply Kd.N_alloc | apply Kd.N_drewN | apply Kd.N_drew)); exact HO_215002.out) gb220 (Nat.le_of_eq hg.symm)) hb); have n3_ := Aside0.mk (Kd.V_below (Kd.V_elderB (by (with_reducible repeat (first | apply Kd.V_alloc | apply Kd.V_drewN | apply Kd.V_drew)); exact HL218_2.out) gb220 (Nat.le_of_eq hg.symm)) hb); have n4_ := Aside0.mk (Kd.V_below (Kd.V_elderB (by (with_reducible repeat (first | apply Kd.V_alloc | apply Kd.V_drewN | apply Kd.V_drew)); exact HL219_1.out) gb220 (Nat.le_of_eq hg.symm)) hb); have n5_ := Aside0.mk (blk_below (g := gb214) (o := .cells #[.int .i64 a1, .int .i64 ji30, u215002] 44 (0, 0)) (by (with_reducible repeat (first | refine blk_drewN ?_ _ | refine blk_drew ?_ | refine blk_alloc ?_ _)); exact BK214.out) hb); have n6_ := Aside0.mk (Kd.C_below (by repeat (first | (with_reducible exact HR218_2.out) | (with_reducible refine Kd.C_alloc ?_ _) | (with_reducible refine Kd.C_drewN ?_ _) | (with_reducible refine Kd.C_drew ?_) | exact HR218_2.out)) hb); have n7_ := Aside0.mk (Kd.C_below (by repeat (first | (with_reducible exact HR219_1.out) | (with_reducible refine Kd.C_alloc ?_ _) | (with_reducible refine Kd.C_drewN ?_ _) | (with_reducible refine Kd.C_drew ?_) | exact HR219_1.out)) hb); have n8_ := Aside0.mk (below_step (by repeat (first | (with_reducible first | exact HB.out | apply below_alloc | apply pw_below_drewN | apply below_drew1 | refine below_set ?_ GE214.out) | exact HB.out)) hb); have n9_ := Aside0.mk (hbox); have n10_ := Aside0.mk ((by rw [hg]; exact (below_size (by repeat (first | (with_reducible first | exact HB.out | apply below_alloc | apply pw_below_drewN | apply below_drew1 | refine below_set ?_ GE214.out) | exact HB.out))) : w.heap.size ≤ gb220)); have n11_ := Aside0.mk ((by rw [hg]; exact (below_size (by repeat (first | (with_reducible first | exact HB.out | apply below_alloc | apply pw_below_drewN | apply below_drew1 | refine below_set ?_ GE214.out) | exact HB.out))) : w.heap.size ≤ gb220)); have n12_ := Aside0.mk ((by rw [hg]; exact Nat.ne_of_lt (blk_lt (g := gb214) (o := .cells #[.int .i64 a1, .int .i64 ji30, u215002] 44 (0, 0)) (by (with_reducible repeat (first | refine blk_drewN ?_ _ | refine blk_drew ?_ | refine blk_alloc ?_ _)); exact BK214.out)) : gb214 ≠ gb220)); have n13_ := Aside0.mk ((by rw [hg]; exact Nat.ne_of_gt (blk_lt (g := gb214) (o := .cells #[.int .i64 a1, .int .i64 ji30, u215002] 44 (0, 0)) (by (with_reducible repeat (first | refine blk_drewN ?_ _ | refine blk_drew ?_ | refine blk_alloc ?_ _)); exact BK214.out)) : gb220 ≠ gb214)); clear HO_0; clear HO_15; clear HO_215002; clear HL218_2; clear HL219_1; clear BK214; clear HR218_2; clear HR219_1; clear HB; have HO_0 := n0_; have HO_15 := n1_; have HO_215002 := n2_; have HL218_2 := n3_; have HL219_1 := n4_; have BK214 := n5_; have HR218_2 := n6_; have HR219_1 := n7_; have HB := n8_; have BK220 := n9_; have GW220 := n10_; have GE220 := n11_; have NB214_220 := n12_; have NB220_214 := n13_; clear n0_ n1_ n2_ n3_ n4_ n5_ n6_ n7_ n8_ n9_ n10_ n11_ n12_ n13_; clear hb hbox hg; have hnb45 := NB220_214.out; have hnc45 := NB214_220.out; have hcz46_0 : w44.cell? ⟨gb220, 0, none⟩ = some (.int .i64 0) := (blk_cell BK220.out 0).trans rfl; have hcz46_1 : w44.cell? ⟨gb220, 1, none⟩ = some (.slice none 0 0) := (blk_cell BK220.out 1).trans rfl; have hfz46_0 := blk_frozen BK220.out 0; have hfz46_1 := blk_frozen BK220.out 1) | ((with_reducible refine gate_store (t := 46) (p := 17) rfl ?_); refine store_event (t := 46) (p := 17) (v := ?vo_w47) (w1 := ((w44.setCell ⟨gb220, 0, none⟩ (.int .i64 ((rd_T46 ((rd_T44 l0 t215).f2) x16_3).f0))).setCell ⟨gb220, 1, none⟩ (.slice A219_1 ((rd_T46 ((rd_T44 l0 t215).f2) x16_3).f1).length c219_1))) ?hg ?ho ?hn ?hr ?_; (case ho => rfl); (case hg => rfl); (case hn => rfl); (case hr => first | (go_simp; done) | (go_simp; rfl)); intro w47 hw; have n0_ : Aside0 (Kd.V k44 44 w47 w.heap.size (fun k_ => (P0_ k_ ∨ w.heap.size ≤ k_) ∧ some k_ ≠ (u215002 : Value).ownBlock ∧ k_ ≠ gb214 ∧ k_ ≠ gb220) (.slice (some ad218) l0.length c0) l0) := ⟨(by rw [hw]; exact (by (with_reducible repeat (first | apply Kd.V_alloc | apply Kd.V_drewN | apply Kd.V_drew)); exact Kd.V_mono (Kd.V_far (p := ⟨gb220, 1, none⟩) (Kd.V_far (p := ⟨gb220, 0, none⟩) (Kd.V_mono HO_0.out (fun k_ hk => (⟨hk, hk.2⟩ : _ ∧ k_ ≠ gb220))) (fun _ hk => hk.2) (.int .i64 ((rd_T46 ((rd_T44 l0 t215).f2) x16_3).f0))) (fun _ hk => hk.2) (.slice A219_1 ((rd_T46 ((rd_T44 l0 t215).f2) x16_3).f1).length c219_1)) (fun _ hk => ⟨hk.1.1.1, ⟨hk.1.1.2.1, ⟨hk.1.1.2.2, hk.1.2⟩⟩⟩)))⟩; have n1_ : Aside0 (Kd.V (Kd.int .u8) 5 w47 w.heap.size (fun k_ => (P0_ k_ ∨ w.heap.size ≤ k_) ∧ some k_ ≠ (u215002 : Value).ownBlock ∧ k_ ≠ gb214 ∧ k_ ≠ gb220) u15 x15_3) := ⟨(by rw [hw]; exact (by (with_reducible repeat (first | apply Kd.V_alloc | apply Kd.V_drewN | apply Kd.V_drew)); exact Kd.V_mono (Kd.V_far (p := ⟨gb220, 1, none⟩) (Kd.V_far (p := ⟨gb220, 0, none⟩) (Kd.V_mono HO_15.out (fun k_ hk => (⟨hk, hk.2⟩ : _ ∧ k_ ≠ gb220))) (fun _ hk => hk.2) (.int .i64 ((rd_T46 ((rd_T44 l0 t215).f2) x16_3).f0))) (fun _ hk => hk.2) (.slice A219_1 ((rd_T46 ((rd_T44 l0 t215).f2) x16_3).f1).length c219_1)) (fun _ hk => ⟨hk.1.1.1, ⟨hk.1.1.2.1, ⟨hk.1.1.2.2, hk.1.2⟩⟩⟩)))⟩; have n2_ : Aside0 (Kd.N k46 46 w47 w.heap.size (fun k_ => (P0_ k_ ∨ w.heap.size ≤ k_) ∧ k_ ≠ gb214 ∧ k_ ≠ gb220) u215002 x215002_3) := ⟨(by rw [hw]; exact (by (with_reducible repeat (first | apply Kd.N_alloc | apply Kd.N_drewN | apply Kd.N_drew)); exact Kd.N_mono (Kd.N_far (p := ⟨gb220, 1, none⟩) (Kd.N_far (p := ⟨gb220, 0, none⟩) (Kd.N_mono HO_215002.out (fun k_ hk => (⟨hk, hk.2⟩ : _ ∧ k_ ≠ gb220))) (fun _ hk => hk.2) (.int .i64 ((rd_T46 ((rd_T44 l0 t215).f2) x16_3).f0))) (fun _ hk => hk.2) (.slice A219_1 ((rd_T46 ((rd_T44 l0 t215).f2) x16_3).f1).length c219_1)) (fun _ hk => ⟨hk.1.1.1, ⟨hk.1.1.2, hk.1.2⟩⟩)))⟩; have n3_ : Aside0 (Kd.V k46 46 w47 w.heap.size (fun k_ => (P0_ k_ ∨ w.heap.size ≤ k_) ∧ some k_ ≠ (u215002 : Value).ownBlock ∧ k_ ≠ gb214 ∧ k_ ≠ gb220) (.slice (some ad219) ((rd_T44 l0 t215).f2).length c218_2) ((rd_T44 l0 t215).f2)) := ⟨(by rw [hw]; exact (by (with_reducible repeat (first | apply Kd.V_alloc | apply Kd.V_drewN | apply Kd.V_drew)); exact Kd.V_mono (Kd.V_far (p := ⟨gb220, 1, none⟩) (Kd.V_far (p := ⟨gb220, 0, none⟩) (Kd.V_mono HL218_2.out (fun k_ hk => (⟨hk, hk.2⟩ : _ ∧ k_ ≠ gb220))) (fun _ hk => hk.2) (.int .i64 ((rd_T46 ((rd_T44 l0 t215).f2) x16_3).f0))) (fun _ hk => hk.2) (.slice A219_1 ((rd_T46 ((rd_T44 l0 t215).f2) x16_3).f1).length c219_1)) (fun _ hk => ⟨hk.1.1.1, ⟨hk.1.1.2.1, ⟨hk.1.1.2.2, hk.1.2⟩⟩⟩)))⟩; have n4_ : Aside0 (Kd.V (Kd.int .u8) 5 w47 w.heap.size (fun k_ => (P0_ k_ ∨ w.heap.size ≤ k_) ∧ some k_ ≠ (u215002 : Value).ownBlock ∧ k_ ≠ gb214 ∧ k_ ≠ gb220) (.slice A219_1 ((rd_T46 ((rd_T44 l0 t215).f2) x16_3).f1).length c219_1) ((rd_T46 ((rd_T44 l0 t215).f2) x16_3).f1)) := ⟨(by rw [hw]; exact (by (with_reducible repeat (first | apply Kd.V_alloc | apply Kd.V_drewN | apply Kd.V_drew)); exact Kd.V_mono (Kd.V_far (p := ⟨gb220, 1, none⟩) (Kd.V_far (p := ⟨gb220, 0, none⟩) (Kd.V_mono HL219_1.out (fun k_ hk => (⟨hk, hk.2⟩ : _ ∧ k_ ≠ gb220))) (fun _ hk => hk.2) (.int .i64 ((rd_T46 ((rd_T44 l0 t215).f2) x16_3).f0))) (fun _ hk => hk.2) (.slice A219_1 ((rd_T46 ((rd_T44 l0 t215).f2) x16_3).f1).length c219_1)) (fun _ hk => ⟨hk.1.1.1, ⟨hk.1.1.2.1, ⟨hk.1.1.2.2, hk.1.2⟩⟩⟩)))⟩; have n5_ : Aside0 (w47.heap[gb214]? = some (.cells #[.int .i64 a1, .int .i64 ji30, u215002] 44 (0, 0))) := ⟨(by rw [hw]; exact (by (with_reducible repeat (first | refine blk_drewN ?_ _ | refine blk_drew ?_ | refine blk_alloc ?_ _)); refine blk_far ?_ NB214_220.out _; (with_reducible repeat (first | refine blk_drewN ?_ _ | refine blk_drew ?_ | refine blk_alloc ?_ _)); refine blk_far ?_ NB214_220.out _; (with_reducible repeat (first | refine blk_drewN ?_ _ | refine blk_drew ?_ | refine blk_alloc ?_ _)); exact BK214.out))⟩; have n6_ : Aside0 (w47.heap[gb220]? = some (.cells #[.int .i64 ((rd_T46 ((rd_T44 l0 t215).f2) x16_3).f0), .slice A219_1 ((rd_T46 ((rd_T44 l0 t215).f2) x16_3).f1).length c219_1] 46 (0, 0))) := ⟨(by rw [hw]; exact (by (with_reducible repeat (first | refine blk_drewN ?_ _ | refine blk_drew ?_ | refine blk_alloc ?_ _)); refine blk_put (cs := #[.int .i64 ((rd_T46 ((rd_T44 l0 t215).f2) x16_3).f0), .slice none 0 0]) ?_ 1 _ rfl; (with_reducible repeat (first | refine blk_drewN ?_ _ | refine blk_drew ?_ | refine blk_alloc ?_ _)); refine blk_put (cs := #[.int .i64 0, .slice none 0 0]) ?_ 0 _ rfl; (with_reducible repeat (first | refine blk_drewN ?_ _ | refine blk_drew ?_ | refine blk_alloc ?_ _)); exact BK220.out))⟩; have n7_ : Aside0 (Below w.heap.size w w47) := ⟨(by rw [hw]; exact (by repeat (first | (with_reducible first | exact HB.out | apply below_alloc | apply pw_below_drewN | apply below_drew1 | refine below_set ?_ GE214.out | refine below_set ?_ GE220.out) | exact HB.out)))⟩; clear hw; clear HO_0; clear HO_15; clear HO_215002; clear HL218_2; clear HL219_1; clear BK214; clear BK220; clear HB; have HO_0 := n0_; have HO_15 := n1_; have HO_215002 := n2_; have HL218_2 := n3_; have HL219_1 := n4_; have BK214 := n5_; have BK220 := n6_; have HB := n7_; clear n0_ n1_ n2_ n3_ n4_ n5_ n6_ n7_; have hcz48_0 : w47.cell? ⟨gb220, 0, none⟩ = some (.int .i64 ((rd_T46 ((rd_T44 l0 t215).f2) x16_3).f0)) := (blk_cell BK220.out 0).trans rfl; have hcz48_1 : w47.cell? ⟨gb220, 1, none⟩ = some (.slice A219_1 ((rd_T46 ((rd_T44 l0 t215).f2) x16_3).f1).length c219_1) := (blk_cell BK220.out 1).trans rfl; have hfz48_0 := blk_frozen BK220.out 0; have hfz48_1 := blk_frozen BK220.out 1; have hcz49_0 : w47.cell? ⟨gb214, 0, none⟩ = some (.int .i64 a1) := (blk_cell BK214.out 0).trans rfl; have hcz49_1 : w47.cell? ⟨gb214, 1, none⟩ = some (.int .i64 ji30) := (blk_cell BK214.out 1).trans rfl; have hcz49_2 : w47.cell? ⟨gb214, 2, none⟩ = some (u215002) := (blk_cell BK214.out 2).trans rfl; have hfz49_0 := blk_frozen BK214.out 0; have hfz49_1 := blk_frozen BK214.out 1; have hfz49_2 := blk_frozen BK214.out 2) | ((with_reducible refine gate_builtin (b := .append) (xs := #[.tmp 95, .tmp 97]) rfl ?_); (try (refine gate_guard (by rfl) ?_; dsimp only)); at_builtin; refine Kd.N_append k46 (w0 := w) w.heap.size rfl (.tmp 95) (.tmp 97) 42 46 (.agg #[(.int .i64 0), (.slice none 0 0)]) 32 rfl Try.underlying42 info46 rfl (by decide) (by omega) u215002 x215002_3 (⟨(rd_T46 ((rd_T44 l0 t215).f2) x16_3).f0, (rd_T46 ((rd_T44 l0 t215).f2) x16_3).f1⟩ : S46) [.int .i64 ((rd_T46 ((rd_T44 l0 t215).f2) x16_3).f0), .slice A219_1 ((rd_T46 ((rd_T44 l0 t215).f2) x16_3).f1).length c219_1] (fun k_ => (P0_ k_ ∨ w.heap.size ≤ k_) ∧ k_ ≠ gb214 ∧ k_ ≠ gb220) (fun k_ => ((fun k_ => (P0_ k_ ∨ w.heap.size ≤ k_) ∧ k_ ≠ gb214 ∧ k_ ≠ gb220)) k_ ∧ some k_ ≠ (u215002 : Value).ownBlock) rfl rfl ?aP (fun _ hk => hk) ?aF ?aO ?aB ?aS ?aL ?_; (case aP => first | exact (k46_mkF _ _ (⟨(rd_T46 ((rd_T44 l0 t215).f2) x16_3).f0, (rd_T46 ((rd_T44 l0 t215).f2) x16_3).f1⟩ : S46) (Kd.V_reads' (Kd.V_mono (ok' := (fun k_ => ((fun k_ => (P0_ k_ ∨ w.heap.size ≤ k_) ∧ k_ ≠ gb214 ∧ k_ ≠ gb220)) k_ ∧ some k_ ≠ (u215002 : Value).ownBlock)) (HL219_1.out) (fun k_ hk => ⟨⟨hk.1, ⟨hk.2.2.1, hk.2.2.2⟩⟩, hk.2.1⟩))).2.1 (Kd.V_F (Kd.V_mono (ok' := (fun k_ => ((fun k_ => (P0_ k_ ∨ w.heap.size ≤ k_) ∧ k_ ≠ gb214 ∧ k_ ≠ gb220)) k_ ∧ some k_ ≠ (u215002 : Value).ownBlock)) (HL219_1.out) (fun k_ hk => ⟨⟨hk.1, ⟨hk.2.2.1, hk.2.2.2⟩⟩, hk.2.1⟩)))) | exact (k46_mkF _ _ (⟨(rd_T46 ((rd_T44 l0 t215).f2) x16_3).f0, (rd_T46 ((rd_T44 l0 t215).f2) x16_3).f1⟩ : S46) (Kd.V_reads' (Kd.V_mono (ok' := (fun k_ => ((fun k_ => (P0_ k_ ∨ w.heap.size ≤ k_) ∧ k_ ≠ gb214 ∧ k_ ≠ gb220)) k_ ∧ some k_ ≠ (u215002 : Value).ownBlock)) (HL219_1.out) (fun k_ hk => ⟨⟨hk.1, ⟨hk.2.2.1, hk.2.2.2⟩⟩, hk.2.1⟩))).2.1 (Kd.V_F (Kd.V_mono (ok' := (fun k_ => ((fun k_ => (P0_ k_ ∨ w.heap.size ≤ k_) ∧ k_ ≠ gb214 ∧ k_ ≠ gb220)) k_ ∧ some k_ ≠ (u215002 : Value).ownBlock)) (Kd.V_drewN (HL219_1.out) _) (fun k_ hk => ⟨⟨hk.1, ⟨hk.2.2.1, hk.2.2.2⟩⟩, hk.2.1⟩))))); (case aB => exact (by repeat (first | (with_reducible first | exact HB.out | apply below_alloc | apply pw_below_drewN | apply below_drew1 | refine below_set ?_ GE214.out | refine below_set ?_ GE220.out) | exact HB.out))); (case aF => exact (fun k_ hk => ⟨(.inr (Nat.le_trans (below_size (by repeat (first | (with_reducible first | exact HB.out | apply below_alloc | apply pw_below_drewN | apply below_drew1 | refine below_set ?_ GE214.out | refine below_set ?_ GE220.out) | exact HB.out))) hk)), Kd.freshB (g := gb214) (o := .cells #[.int .i64 a1, .int .i64 ji30, u215002] 44 (0, 0)) (by (with_reducible repeat (first | refine blk_drewN ?_ _ | refine blk_drew ?_ | refine blk_alloc ?_ _)); exact BK214.out) k_ hk, Kd.freshB (g := gb220) (o := .cells #[.int .i64 ((rd_T46 ((rd_T44 l0 t215).f2) x16_3).f0), .slice A219_1 ((rd_T46 ((rd_T44 l0 t215).f2) x16_3).f1).length c219_1] 46 (0, 0)) (by (with_reducible repeat (first | refine blk_drewN ?_ _ | refine blk_drew ?_ | refine blk_alloc ?_ _)); exact BK220.out) k_ hk⟩)); (case aO => exact (by (with_reducible repeat (first | apply Kd.N_alloc | apply Kd.N_drewN | apply Kd.N_drew)); exact HO_215002.out)); (case aS => exact (below_size (by repeat (first | (with_reducible first | exact HB.out | apply below_alloc | apply pw_below_drewN | apply below_drew1 | refine below_set ?_ GE214.out | refine below_set ?_ GE220.out) | exact HB.out)))); (case aL => have := LMc42.out; omega); intro v222 w50 ho hb hg hat; rw [← Ny221.out] at ho; have n0_ := Aside0.mk (Kd.V_afterv (ok := (fun k_ => (P0_ k_ ∨ w.heap.size ≤ k_) ∧ k_ ≠ gb214 ∧ k_ ≠ gb220)) (by (with_reducible repeat (first | apply Kd.V_alloc | apply Kd.V_drewN | apply Kd.V_drew)); exact Kd.V_mono HO_0.out (fun _ hk => ⟨⟨hk.1, ⟨hk.2.2.1, hk.2.2.2⟩⟩, hk.2.1⟩)) hg hat); have n1_ := Aside0.mk (Kd.V_afterv (ok := (fun k_ => (P0_ k_ ∨ w.heap.size ≤ k_) ∧ k_ ≠ gb214 ∧ k_ ≠ gb220)) (by (with_reducible repeat (first | apply Kd.V_alloc | apply Kd.V_drewN | apply Kd.V_drew)); exact Kd.V_mono HO_15.out (fun _ hk => ⟨⟨hk.1, ⟨hk.2.2.1, hk.2.2.2⟩⟩, hk.2.1⟩)) hg hat); have n2_ := Aside0.mk (blk_grown (g := gb214) (o := .cells #[.int .i64 a1, .int .i64 ji30, u215002] 44 (0, 0)) (by (with_reducible repeat (first | refine blk_drewN ?_ _ | refine blk_drew ?_ | refine blk_alloc ?_ _)); exact BK214.out) hg (Kd.N_ne HO_215002.out BK214.out (by decide))); have n3_ := Aside0.mk (Kd.V_afterv (ok := (fun k_ => (P0_ k_ ∨ w.heap.size ≤ k_) ∧ k_ ≠ gb214 ∧ k_ ≠ gb220)) (by (with_reducible repeat (first | apply Kd.V_alloc | apply Kd.V_drewN | apply Kd.V_drew)); exact Kd.V_mono HL218_2.out (fun _ hk => ⟨⟨hk.1, ⟨hk.2.2.1, hk.2.2.2⟩⟩, hk.2.1⟩)) hg hat); have n4_ := Aside0.mk (Kd.V_afterv (ok := (fun k_ => (P0_ k_ ∨ w.heap.size ≤ k_) ∧ k_ ≠ gb214 ∧ k_ ≠ gb220)) (by (with_reducible repeat (first | apply Kd.V_alloc | apply Kd.V_drewN | apply Kd.V_drew)); exact Kd.V_mono HL219_1.out (fun _ hk => ⟨⟨hk.1, ⟨hk.2.2.1, hk.2.2.2⟩⟩, hk.2.1⟩)) hg hat); have n5_ := Aside0.mk (blk_grown (g := gb220) (o := .cells #[.int .i64 ((rd_T46 ((rd_T44 l0 t215).f2) x16_3).f0), .slice A219_1 ((rd_T46 ((rd_T44 l0 t215).f2) x16_3).f1).length c219_1] 46 (0, 0)) (by (with_reducible repeat (first | refine blk_drewN ?_ _ | refine blk_drew ?_ | refine blk_alloc ?_ _)); exact BK220.out) hg (Kd.N_away HO_215002.out (fun _ hk => hk.2.2))); have n6_ := Aside0.mk (hb); have n7_ := Aside0.mk (ho); clear HO_0; clear HO_15; clear BK214; clear HL218_2; clear HL219_1; clear BK220; clear HB; clear HO_215002; have HO_0 := n0_; have HO_15 := n1_; have BK214 := n2_; have HL218_2 := n3_; have HL219_1 := n4_; have BK220 := n5_; have HB := n6_; have HO223 := n7_; clear n0_ n1_ n2_ n3_ n4_ n5_ n6_ n7_; clear ho hb hg hat; obtain ⟨Ao51, co51, eo51⟩ := Kd.N_slice HO223.out; subst eo51; have hcz52_0 : w50.cell? ⟨gb214, 0, none⟩ = some (.int .i64 a1) := (blk_cell BK214.out 0).trans rfl; have hcz52_1 : w50.cell? ⟨gb214, 1, none⟩ = some (.int .i64 ji30) := (blk_cell BK214.out 1).trans rfl; have hcz52_2 : w50.cell? ⟨gb214, 2, none⟩ = some (u215002) := (blk_cell BK214.out 2).trans rfl; have hfz52_0 := blk_frozen BK214.out 0; have hfz52_1 := blk_frozen BK214.out 1; have hfz52_2 := blk_frozen BK214.out 2; have hcz53_0 : w50.cell? ⟨gb220, 0, none⟩ = some (.int .i64 ((rd_T46 ((rd_T44 l0 t215).f2) x16_3).f0)) := (blk_cell BK220.out 0).trans rfl; have hcz53_1 : w50.cell? ⟨gb220, 1, none⟩ = some (.slice A219_1 ((rd_T46 ((rd_T44 l0 t215).f2) x16_3).f1).length c219_1) := (blk_cell BK220.out 1).trans rfl; have hfz53_0 := blk_frozen BK220.out 0; have hfz53_1 := blk_frozen BK220.out 1))
                  go_roundg kj31
                  case measure => have := HJ4.out; have := HJ21.out; have := HK3.out; have := HJ31.out; omega
                  case rel => exact ⟨(2), ((rd_T46 ((rd_T44 l0 t215).f2) x16_3).f1), (wrap64 (x16_3 + 1)), (y221), (.slice Ao51 y221.length co51), (by first | rfl | (simp; done) | (simp [*]; done)), (by first | rfl | (simp; done) | (simp [*]; done)), H', ⟨by have := HJ4.out; have := HJ21.out; have := HK3.out; have := HJ31.out; omega⟩, ⟨by (with_reducible repeat (first | apply Kd.V_alloc | apply Kd.V_drewN | apply Kd.V_drew)); exact Kd.V_mono (Kd.V_far (p := ⟨gb214, 2, none⟩) (Kd.V_mono HO_0.out (fun k_ hk => (⟨hk, hk.1.2.1⟩ : _ ∧ k_ ≠ gb214))) (fun _ hk => hk.2) (.slice Ao51 y221.length co51)) (fun _ hk => ⟨hk.1.1.1, ⟨hk.1.2, hk.1.1.2.1⟩⟩)⟩, ⟨by (with_reducible repeat (first | apply Kd.V_alloc | apply Kd.V_drewN | apply Kd.V_drew)); exact Kd.V_mono (Kd.V_far (p := ⟨gb214, 2, none⟩) (Kd.V_mono HL219_1.out (fun k_ hk => (⟨hk, hk.1.2.1⟩ : _ ∧ k_ ≠ gb214))) (fun _ hk => hk.2) (.slice Ao51 y221.length co51)) (fun _ hk => ⟨hk.1.1.1, ⟨hk.1.2, hk.1.1.2.1⟩⟩)⟩, ⟨by (with_reducible repeat (first | apply Kd.N_alloc | apply Kd.N_drewN | apply Kd.N_drew)); exact Kd.N_mono (Kd.N_far (p := ⟨gb214, 2, none⟩) (Kd.N_mono HO223.out (fun k_ hk => (⟨hk, hk.2.1⟩ : _ ∧ k_ ≠ gb214))) (fun _ hk => hk.2) (.slice Ao51 y221.length co51)) (fun _ hk => ⟨hk.1.1, hk.1.2.1⟩)⟩, ⟨by (with_reducible repeat (first | refine blk_drewN ?_ _ | refine blk_drew ?_ | refine blk_alloc ?_ _)); refine blk_put (cs := #[.int .i64 a1, .int .i64 ji30, u215002]) ?_ 2 _ rfl; (with_reducible repeat (first | refine blk_drewN ?_ _ | refine blk_drew ?_ | refine blk_alloc ?_ _)); exact BK214.out⟩, ⟨by repeat (first | (with_reducible first | exact HB.out | apply below_alloc | apply pw_below_drewN | apply below_drew1 | refine below_set ?_ GE214.out | refine below_set ?_ GE220.out) | exact HB.out)⟩⟩
                 ·rw [if_neg c43] at H
                  have c43b0 : (((rd_T46 ((rd_T44 l0 t215).f2) x16_3).f0) == a2) = false := beq_eq_false_iff_ne.mpr c43
                  have c43b1 : (((rd_T46 ((rd_T44 l0 t215).f2) x16_3).f0) != a2) = true := bne_iff_ne.mpr c43
                  have H' := Aside0.mk H
                  clear H
                  have p218 : 0 ≤ (t215 : Int) := of_decide_eq_true (by first | (with_reducible assumption) | assumption)
                  have q218 : t215 < (l0.length : Int) := of_decide_eq_true (by first | (with_reducible assumption) | assumption)
                  obtain ⟨ad218, A218_2, c218_2, e218, hx218_0, hx218_1, hx218_2, hl218_2, hi218_2⟩ := at_T44 (Kd.V_reads' HO_0.out).2.2 t215 p218 q218
                  cases e218
                  obtain ⟨ce218, hce218, hMe218, hcc218⟩ := Kd.V_get HO_0.out z44 t215 p218 (by first | exact q218 | exact of_decide_eq_true (by first | (with_reducible assumption) | assumption) | (have e_ := (Kd.V_reads' HO_0.out).1; omega))
                  obtain ⟨ua218_2, uc218_2, rfl, ul218_2, ge218_2⟩ := k44_openF hMe218
                  have hv218_2 := hcc218 2 _ rfl
                  rw [add_field _ _ 2 (by omega)] at hv218_2
                  replace hv218_2 := Option.some.inj (hv218_2.symm.trans hx218_2)
                  injection hv218_2 with hva_ hvn_ hvc_
                  rw [hva_] at ge218_2
                  rw [hvc_] at ul218_2
                  have HL218_2 := Aside0.mk (show Kd.V k46 46 _ w.heap.size _ _ ((rd_T44 l0 t215).f2) from Kd.V_mk ul218_2 ge218_2)
                  clear hva_ hvn_ hvc_ ge218_2 ul218_2
                  clear hcc218 hce218
                  have HR218_2 := Aside0.mk hi218_2
                  have HC218_2 := Aside0.mk hl218_2
                  clear hi218_2 hl218_2
                  replace p218 := eq_true p218
                  replace q218 := eq_true q218
                  have p219 : 0 ≤ (x16_3 : Int) := of_decide_eq_true (by first | (with_reducible assumption) | assumption)
                  have q219 : x16_3 < (((rd_T44 l0 t215).f2).length : Int) := of_decide_eq_true (by first | (with_reducible assumption) | assumption)
                  obtain ⟨ad219, A219_1, c219_1, e219, hx219_0, hx219_1, hl219_1, hi219_1⟩ := at_T46 (by repeat (first | (with_reducible exact HR218_2.out) | (with_reducible refine Kd.C_alloc ?_ _) | (with_reducible refine Kd.C_drewN ?_ _) | (with_reducible refine Kd.C_drew ?_) | exact HR218_2.out)) x16_3 p219 q219
                  cases e219
                  obtain ⟨ce219, hce219, hMe219, hcc219⟩ := Kd.V_get HL218_2.out z46 x16_3 p219 (by first | exact q219 | exact of_decide_eq_true (by first | (with_reducible assumption) | assumption) | (have e_ := (Kd.V_reads' HL218_2.out).1; omega))
                  obtain ⟨ua219_1, uc219_1, rfl, ul219_1, ge219_1⟩ := k46_openF hMe219
                  have hv219_1 := hcc219 1 _ rfl
                  rw [add_field _ _ 1 (by omega)] at hv219_1
                  replace hv219_1 := Option.some.inj (hv219_1.symm.trans hx219_1)
                  injection hv219_1 with hva_ hvn_ hvc_
                  rw [hva_] at ge219_1
                  rw [hvc_] at ul219_1
                  have HL219_1 := Aside0.mk (show Kd.V (Kd.int .u8) 5 _ w.heap.size _ _ ((rd_T46 ((rd_T44 l0 t215).f2) x16_3).f1) from Kd.V_mk ul219_1 ge219_1)
                  clear hva_ hvn_ hvc_ ge219_1 ul219_1
                  clear hcc219 hce219
                  have HR219_1 := Aside0.mk hi219_1
                  have HC219_1 := Aside0.mk hl219_1
                  clear hi219_1 hl219_1
                  replace p219 := eq_true p219
                  replace q219 := eq_true q219
                  go_wp2_with (first | ((with_reducible refine gate_dst (N := 17) rfl ?_); (try (refine gate_guard (by rfl) ?_; dsimp only)); refine box_event ?hg (N := 17) ?hd (cs := #[.int .i64 0, .slice none 0 0]) (t := 46) ?hr ?_; (case hd => rfl); (case hg => rfl); (case hr => first | (go_simp; done) | (go_simp; rfl)); intro gb220 hg w54 hbox hb; have n0_ := Aside0.mk (Kd.V_below (Kd.V_elderB (by (with_reducible repeat (first | apply Kd.V_alloc | apply Kd.V_drewN | apply Kd.V_drew)); exact HO_0.out) gb220 (Nat.le_of_eq hg.symm)) hb); have n1_ := Aside0.mk (Kd.V_below (Kd.V_elderB (by (with_reducible repeat (first | apply Kd.V_alloc | apply Kd.V_drewN | apply Kd.V_drew)); exact HO_15.out) gb220 (Nat.le_of_eq hg.symm)) hb); have n2_ := Aside0.mk (Kd.N_below (Kd.N_elderB (by (with_reducible repeat (first | apply Kd.N_alloc | apply Kd.N_drewN | apply Kd.N_drew)); exact HO_215002.out) gb220 (Nat.le_of_eq hg.symm)) hb); have n3_ := Aside0.mk (Kd.V_below (Kd.V_elderB (by (with_reducible repeat (first | apply Kd.V_alloc | apply Kd.V_drewN | apply Kd.V_drew)); exact HL218_2.out) gb220 (Nat.le_of_eq hg.symm)) hb); have n4_ := Aside0.mk (Kd.V_below (Kd.V_elderB (by (with_reducible repeat (first | apply Kd.V_alloc | apply Kd.V_drewN | apply Kd.V_drew)); exact HL219_1.out) gb220 (Nat.le_of_eq hg.symm)) hb); have n5_ := Aside0.mk (blk_below (g := gb214) (o := .cells #[.int .i64 a1, .int .i64 ji30, u215002] 44 (0, 0)) (by (with_reducible repeat (first | refine blk_drewN ?_ _ | refine blk_drew ?_ | refine blk_alloc ?_ _)); exact BK214.out) hb); have n6_ := Aside0.mk (Kd.C_below (by repeat (first | (with_reducible exact HR218_2.out) | (with_reducible refine Kd.C_alloc ?_ _) | (with_reducible refine Kd.C_drewN ?_ _) | (with_reducible refine Kd.C_drew ?_) | exact HR218_2.out)) hb); have n7_ := Aside0.mk (Kd.C_below (by repeat (first | (with_reducible exact HR219_1.out) | (with_reducible refine Kd.C_alloc ?_ _) | (with_reducible refine Kd.C_drewN ?_ _) | (with_reducible refine Kd.C_drew ?_) | exact HR219_1.out)) hb); have n8_ := Aside0.mk (below_step (by repeat (first | (with_reducible first | exact HB.out | apply below_alloc | apply pw_below_drewN | apply below_drew1 | refine below_set ?_ GE214.out) | exact HB.out)) hb); have n9_ := Aside0.mk (hbox); have n10_ := Aside0.mk ((by rw [hg]; exact (below_size (by repeat (first | (with_reducible first | exact HB.out | apply below_alloc | apply pw_below_drewN | apply below_drew1 | refine below_set ?_ GE214.out) | exact HB.out))) : w.heap.size ≤ gb220)); have n11_ := Aside0.mk ((by rw [hg]; exact (below_size (by repeat (first | (with_reducible first | exact HB.out | apply below_alloc | apply pw_below_drewN | apply below_drew1 | refine below_set ?_ GE214.out) | exact HB.out))) : w.heap.size ≤ gb220)); have n12_ := Aside0.mk ((by rw [hg]; exact Nat.ne_of_lt (blk_lt (g := gb214) (o := .cells #[.int .i64 a1, .int .i64 ji30, u215002] 44 (0, 0)) (by (with_reducible repeat (first | refine blk_drewN ?_ _ | refine blk_drew ?_ | refine blk_alloc ?_ _)); exact BK214.out)) : gb214 ≠ gb220)); have n13_ := Aside0.mk ((by rw [hg]; exact Nat.ne_of_gt (blk_lt (g := gb214) (o := .cells #[.int .i64 a1, .int .i64 ji30, u215002] 44 (0, 0)) (by (with_reducible repeat (first | refine blk_drewN ?_ _ | refine blk_drew ?_ | refine blk_alloc ?_ _)); exact BK214.out)) : gb220 ≠ gb214)); clear HO_0; clear HO_15; clear HO_215002; clear HL218_2; clear HL219_1; clear BK214; clear HR218_2; clear HR219_1; clear HB; have HO_0 := n0_; have HO_15 := n1_; have HO_215002 := n2_; have HL218_2 := n3_; have HL219_1 := n4_; have BK214 := n5_; have HR218_2 := n6_; have HR219_1 := n7_; have HB := n8_; have BK220 := n9_; have GW220 := n10_; have GE220 := n11_; have NB214_220 := n12_; have NB220_214 := n13_; clear n0_ n1_ n2_ n3_ n4_ n5_ n6_ n7_ n8_ n9_ n10_ n11_ n12_ n13_; clear hb hbox hg; have hnb55 := NB220_214.out; have hnc55 := NB214_220.out; have hcz56_0 : w54.cell? ⟨gb220, 0, none⟩ = some (.int .i64 0) := (blk_cell BK220.out 0).trans rfl; have hcz56_1 : w54.cell? ⟨gb220, 1, none⟩ = some (.slice none 0 0) := (blk_cell BK220.out 1).trans rfl; have hfz56_0 := blk_frozen BK220.out 0; have hfz56_1 := blk_frozen BK220.out 1) | ((with_reducible refine gate_store (t := 46) (p := 17) rfl ?_); refine store_event (t := 46) (p := 17) (v := ?vo_w57) (w1 := ((w54.setCell ⟨gb220, 0, none⟩ (.int .i64 ((rd_T46 ((rd_T44 l0 t215).f2) x16_3).f0))).setCell ⟨gb220, 1, none⟩ (.slice A219_1 ((rd_T46 ((rd_T44 l0 t215).f2) x16_3).f1).length c219_1))) ?hg ?ho ?hn ?hr ?_; (case ho => rfl); (case hg => rfl); (case hn => rfl); (case hr => first | (go_simp; done) | (go_simp; rfl)); intro w57 hw; have n0_ : Aside0 (Kd.V k44 44 w57 w.heap.size (fun k_ => (P0_ k_ ∨ w.heap.size ≤ k_) ∧ some k_ ≠ (u215002 : Value).ownBlock ∧ k_ ≠ gb214 ∧ k_ ≠ gb220) (.slice (some ad218) l0.length c0) l0) := ⟨(by rw [hw]; exact (by (with_reducible repeat (first | apply Kd.V_alloc | apply Kd.V_drewN | apply Kd.V_drew)); exact Kd.V_mono (Kd.V_far (p := ⟨gb220, 1, none⟩) (Kd.V_far (p := ⟨gb220, 0, none⟩) (Kd.V_mono HO_0.out (fun k_ hk => (⟨hk, hk.2⟩ : _ ∧ k_ ≠ gb220))) (fun _ hk => hk.2) (.int .i64 ((rd_T46 ((rd_T44 l0 t215).f2) x16_3).f0))) (fun _ hk => hk.2) (.slice A219_1 ((rd_T46 ((rd_T44 l0 t215).f2) x16_3).f1).length c219_1)) (fun _ hk => ⟨hk.1.1.1, ⟨hk.1.1.2.1, ⟨hk.1.1.2.2, hk.1.2⟩⟩⟩)))⟩; have n1_ : Aside0 (Kd.V (Kd.int .u8) 5 w57 w.heap.size (fun k_ => (P0_ k_ ∨ w.heap.size ≤ k_) ∧ some k_ ≠ (u215002 : Value).ownBlock ∧ k_ ≠ gb214 ∧ k_ ≠ gb220) u15 x15_3) := ⟨(by rw [hw]; exact (by (with_reducible repeat (first | apply Kd.V_alloc | apply Kd.V_drewN | apply Kd.V_drew)); exact Kd.V_mono (Kd.V_far (p := ⟨gb220, 1, none⟩) (Kd.V_far (p := ⟨gb220, 0, none⟩) (Kd.V_mono HO_15.out (fun k_ hk => (⟨hk, hk.2⟩ : _ ∧ k_ ≠ gb220))) (fun _ hk => hk.2) (.int .i64 ((rd_T46 ((rd_T44 l0 t215).f2) x16_3).f0))) (fun _ hk => hk.2) (.slice A219_1 ((rd_T46 ((rd_T44 l0 t215).f2) x16_3).f1).length c219_1)) (fun _ hk => ⟨hk.1.1.1, ⟨hk.1.1.2.1, ⟨hk.1.1.2.2, hk.1.2⟩⟩⟩)))⟩; have n2_ : Aside0 (Kd.N k46 46 w57 w.heap.size (fun k_ => (P0_ k_ ∨ w.heap.size ≤ k_) ∧ k_ ≠ gb214 ∧ k_ ≠ gb220) u215002 x215002_3) := ⟨(by rw [hw]; exact (by (with_reducible repeat (first | apply Kd.N_alloc | apply Kd.N_drewN | apply Kd.N_drew)); exact Kd.N_mono (Kd.N_far (p := ⟨gb220, 1, none⟩) (Kd.N_far (p := ⟨gb220, 0, none⟩) (Kd.N_mono HO_215002.out (fun k_ hk => (⟨hk, hk.2⟩ : _ ∧ k_ ≠ gb220))) (fun _ hk => hk.2) (.int .i64 ((rd_T46 ((rd_T44 l0 t215).f2) x16_3).f0))) (fun _ hk => hk.2) (.slice A219_1 ((rd_T46 ((rd_T44 l0 t215).f2) x16_3).f1).length c219_1)) (fun _ hk => ⟨hk.1.1.1, ⟨hk.1.1.2, hk.1.2⟩⟩)))⟩; have n3_ : Aside0 (Kd.V k46 46 w57 w.heap.size (fun k_ => (P0_ k_ ∨ w.heap.size ≤ k_) ∧ some k_ ≠ (u215002 : Value).ownBlock ∧ k_ ≠ gb214 ∧ k_ ≠ gb220) (.slice (some ad219) ((rd_T44 l0 t215).f2).length c218_2) ((rd_T44 l0 t215).f2)) := ⟨(by rw [hw]; exact (by (with_reducible repeat (first | apply Kd.V_alloc | apply Kd.V_drewN | apply Kd.V_drew)); exact Kd.V_mono (Kd.V_far (p := ⟨gb220, 1, none⟩) (Kd.V_far (p := ⟨gb220, 0, none⟩) (Kd.V_mono HL218_2.out (fun k_ hk => (⟨hk, hk.2⟩ : _ ∧ k_ ≠ gb220))) (fun _ hk => hk.2) (.int .i64 ((rd_T46 ((rd_T44 l0 t215).f2) x16_3).f0))) (fun _ hk => hk.2) (.slice A219_1 ((rd_T46 ((rd_T44 l0 t215).f2) x16_3).f1).length c219_1)) (fun _ hk => ⟨hk.1.1.1, ⟨hk.1.1.2.1, ⟨hk.1.1.2.2, hk.1.2⟩⟩⟩)))⟩; have n4_ : Aside0 (Kd.V (Kd.int .u8) 5 w57 w.heap.size (fun k_ => (P0_ k_ ∨ w.heap.size ≤ k_) ∧ some k_ ≠ (u215002 : Value).ownBlock ∧ k_ ≠ gb214 ∧ k_ ≠ gb220) (.slice A219_1 ((rd_T46 ((rd_T44 l0 t215).f2) x16_3).f1).length c219_1) ((rd_T46 ((rd_T44 l0 t215).f2) x16_3).f1)) := ⟨(by rw [hw]; exact (by (with_reducible repeat (first | apply Kd.V_alloc | apply Kd.V_drewN | apply Kd.V_drew)); exact Kd.V_mono (Kd.V_far (p := ⟨gb220, 1, none⟩) (Kd.V_far (p := ⟨gb220, 0, none⟩) (Kd.V_mono HL219_1.out (fun k_ hk => (⟨hk, hk.2⟩ : _ ∧ k_ ≠ gb220))) (fun _ hk => hk.2) (.int .i64 ((rd_T46 ((rd_T44 l0 t215).f2) x16_3).f0))) (fun _ hk => hk.2) (.slice A219_1 ((rd_T46 ((rd_T44 l0 t215).f2) x16_3).f1).length c219_1)) (fun _ hk => ⟨hk.1.1.1, ⟨hk.1.1.2.1, ⟨hk.1.1.2.2, hk.1.2⟩⟩⟩)))⟩; have n5_ : Aside0 (w57.heap[gb214]? = some (.cells #[.int .i64 a1, .int .i64 ji30, u215002] 44 (0, 0))) := ⟨(by rw [hw]; exact (by (with_reducible repeat (first | refine blk_drewN ?_ _ | refine blk_drew ?_ | refine blk_alloc ?_ _)); refine blk_far ?_ NB214_220.out _; (with_reducible repeat (first | refine blk_drewN ?_ _ | refine blk_drew ?_ | refine blk_alloc ?_ _)); refine blk_far ?_ NB214_220.out _; (with_reducible repeat (first | refine blk_drewN ?_ _ | refine blk_drew ?_ | refine blk_alloc ?_ _)); exact BK214.out))⟩; have n6_ : Aside0 (w57.heap[gb220]? = some (.cells #[.int .i64 ((rd_T46 ((rd_T44 l0 t215).f2) x16_3).f0), .slice A219_1 ((rd_T46 ((rd_T44 l0 t215).f2) x16_3).f1).length c219_1] 46 (0, 0))) := ⟨(by rw [hw]; exact (by (with_reducible repeat (first | refine blk_drewN ?_ _ | refine blk_drew ?_ | refine blk_alloc ?_ _)); refine blk_put (cs := #[.int .i64 ((rd_T46 ((rd_T44 l0 t215).f2) x16_3).f0), .slice none 0 0]) ?_ 1 _ rfl; (with_reducible repeat (first | refine blk_drewN ?_ _ | refine blk_drew ?_ | refine blk_alloc ?_ _)); refine blk_put (cs := #[.int .i64 0, .slice none 0 0]) ?_ 0 _ rfl; (with_reducible repeat (first | refine blk_drewN ?_ _ | refine blk_drew ?_ | refine blk_alloc ?_ _)); exact BK220.out))⟩; have n7_ : Aside0 (Below w.heap.size w w57) := ⟨(by rw [hw]; exact (by repeat (first | (with_reducible first | exact HB.out | apply below_alloc | apply pw_below_drewN | apply below_drew1 | refine below_set ?_ GE214.out | refine below_set ?_ GE220.out) | exact HB.out)))⟩; clear hw; clear HO_0; clear HO_15; clear HO_215002; clear HL218_2; clear HL219_1; clear BK214; clear BK220; clear HB; have HO_0 := n0_; have HO_15 := n1_; have HO_215002 := n2_; have HL218_2 := n3_; have HL219_1 := n4_; have BK214 := n5_; have BK220 := n6_; have HB := n7_; clear n0_ n1_ n2_ n3_ n4_ n5_ n6_ n7_; have hcz58_0 : w57.cell? ⟨gb220, 0, none⟩ = some (.int .i64 ((rd_T46 ((rd_T44 l0 t215).f2) x16_3).f0)) := (blk_cell BK220.out 0).trans rfl; have hcz58_1 : w57.cell? ⟨gb220, 1, none⟩ = some (.slice A219_1 ((rd_T46 ((rd_T44 l0 t215).f2) x16_3).f1).length c219_1) := (blk_cell BK220.out 1).trans rfl; have hfz58_0 := blk_frozen BK220.out 0; have hfz58_1 := blk_frozen BK220.out 1; have hcz59_0 : w57.cell? ⟨gb214, 0, none⟩ = some (.int .i64 a1) := (blk_cell BK214.out 0).trans rfl; have hcz59_1 : w57.cell? ⟨gb214, 1, none⟩ = some (.int .i64 ji30) := (blk_cell BK214.out 1).trans rfl; have hcz59_2 : w57.cell? ⟨gb214, 2, none⟩ = some (u215002) := (blk_cell BK214.out 2).trans rfl; have hfz59_0 := blk_frozen BK214.out 0; have hfz59_1 := blk_frozen BK214.out 1; have hfz59_2 := blk_frozen BK214.out 2) | ((with_reducible refine gate_builtin (b := .append) (xs := #[.tmp 95, .tmp 97]) rfl ?_); (try (refine gate_guard (by rfl) ?_; dsimp only)); at_builtin; refine Kd.N_append k46 (w0 := w) w.heap.size rfl (.tmp 95) (.tmp 97) 42 46 (.agg #[(.int .i64 0), (.slice none 0 0)]) 32 rfl Try.underlying42 info46 rfl (by decide) (by omega) u215002 x215002_3 (⟨(rd_T46 ((rd_T44 l0 t215).f2) x16_3).f0, (rd_T46 ((rd_T44 l0 t215).f2) x16_3).f1⟩ : S46) [.int .i64 ((rd_T46 ((rd_T44 l0 t215).f2) x16_3).f0), .slice A219_1 ((rd_T46 ((rd_T44 l0 t215).f2) x16_3).f1).length c219_1] (fun k_ => (P0_ k_ ∨ w.heap.size ≤ k_) ∧ k_ ≠ gb214 ∧ k_ ≠ gb220) (fun k_ => ((fun k_ => (P0_ k_ ∨ w.heap.size ≤ k_) ∧ k_ ≠ gb214 ∧ k_ ≠ gb220)) k_ ∧ some k_ ≠ (u215002 : Value).ownBlock) rfl rfl ?aP (fun _ hk => hk) ?aF ?aO ?aB ?aS ?aL ?_; (case aP => first | exact (k46_mkF _ _ (⟨(rd_T46 ((rd_T44 l0 t215).f2) x16_3).f0, (rd_T46 ((rd_T44 l0 t215).f2) x16_3).f1⟩ : S46) (Kd.V_reads' (Kd.V_mono (ok' := (fun k_ => ((fun k_ => (P0_ k_ ∨ w.heap.size ≤ k_) ∧ k_ ≠ gb214 ∧ k_ ≠ gb220)) k_ ∧ some k_ ≠ (u215002 : Value).ownBlock)) (HL219_1.out) (fun k_ hk => ⟨⟨hk.1, ⟨hk.2.2.1, hk.2.2.2⟩⟩, hk.2.1⟩))).2.1 (Kd.V_F (Kd.V_mono (ok' := (fun k_ => ((fun k_ => (P0_ k_ ∨ w.heap.size ≤ k_) ∧ k_ ≠ gb214 ∧ k_ ≠ gb220)) k_ ∧ some k_ ≠ (u215002 : Value).ownBlock)) (HL219_1.out) (fun k_ hk => ⟨⟨hk.1, ⟨hk.2.2.1, hk.2.2.2⟩⟩, hk.2.1⟩)))) | exact (k46_mkF _ _ (⟨(rd_T46 ((rd_T44 l0 t215).f2) x16_3).f0, (rd_T46 ((rd_T44 l0 t215).f2) x16_3).f1⟩ : S46) (Kd.V_reads' (Kd.V_mono (ok' := (fun k_ => ((fun k_ => (P0_ k_ ∨ w.heap.size ≤ k_) ∧ k_ ≠ gb214 ∧ k_ ≠ gb220)) k_ ∧ some k_ ≠ (u215002 : Value).ownBlock)) (HL219_1.out) (fun k_ hk => ⟨⟨hk.1, ⟨hk.2.2.1, hk.2.2.2⟩⟩, hk.2.1⟩))).2.1 (Kd.V_F (Kd.V_mono (ok' := (fun k_ => ((fun k_ => (P0_ k_ ∨ w.heap.size ≤ k_) ∧ k_ ≠ gb214 ∧ k_ ≠ gb220)) k_ ∧ some k_ ≠ (u215002 : Value).ownBlock)) (Kd.V_drewN (HL219_1.out) _) (fun k_ hk => ⟨⟨hk.1, ⟨hk.2.2.1, hk.2.2.2⟩⟩, hk.2.1⟩))))); (case aB => exact (by repeat (first | (with_reducible first | exact HB.out | apply below_alloc | apply pw_below_drewN | apply below_drew1 | refine below_set ?_ GE214.out | refine below_set ?_ GE220.out) | exact HB.out))); (case aF => exact (fun k_ hk => ⟨(.inr (Nat.le_trans (below_size (by repeat (first | (with_reducible first | exact HB.out | apply below_alloc | apply pw_below_drewN | apply below_drew1 | refine below_set ?_ GE214.out | refine below_set ?_ GE220.out) | exact HB.out))) hk)), Kd.freshB (g := gb214) (o := .cells #[.int .i64 a1, .int .i64 ji30, u215002] 44 (0, 0)) (by (with_reducible repeat (first | refine blk_drewN ?_ _ | refine blk_drew ?_ | refine blk_alloc ?_ _)); exact BK214.out) k_ hk, Kd.freshB (g := gb220) (o := .cells #[.int .i64 ((rd_T46 ((rd_T44 l0 t215).f2) x16_3).f0), .slice A219_1 ((rd_T46 ((rd_T44 l0 t215).f2) x16_3).f1).length c219_1] 46 (0, 0)) (by (with_reducible repeat (first | refine blk_drewN ?_ _ | refine blk_drew ?_ | refine blk_alloc ?_ _)); exact BK220.out) k_ hk⟩)); (case aO => exact (by (with_reducible repeat (first | apply Kd.N_alloc | apply Kd.N_drewN | apply Kd.N_drew)); exact HO_215002.out)); (case aS => exact (below_size (by repeat (first | (with_reducible first | exact HB.out | apply below_alloc | apply pw_below_drewN | apply below_drew1 | refine below_set ?_ GE214.out | refine below_set ?_ GE220.out) | exact HB.out)))); (case aL => have := LMc42.out; omega); intro v222 w60 ho hb hg hat; rw [← Ny221.out] at ho; have n0_ := Aside0.mk (Kd.V_afterv (ok := (fun k_ => (P0_ k_ ∨ w.heap.size ≤ k_) ∧ k_ ≠ gb214 ∧ k_ ≠ gb220)) (by (with_reducible repeat (first | apply Kd.V_alloc | apply Kd.V_drewN | apply Kd.V_drew)); exact Kd.V_mono HO_0.out (fun _ hk => ⟨⟨hk.1, ⟨hk.2.2.1, hk.2.2.2⟩⟩, hk.2.1⟩)) hg hat); have n1_ := Aside0.mk (Kd.V_afterv (ok := (fun k_ => (P0_ k_ ∨ w.heap.size ≤ k_) ∧ k_ ≠ gb214 ∧ k_ ≠ gb220)) (by (with_reducible repeat (first | apply Kd.V_alloc | apply Kd.V_drewN | apply Kd.V_drew)); exact Kd.V_mono HO_15.out (fun _ hk => ⟨⟨hk.1, ⟨hk.2.2.1, hk.2.2.2⟩⟩, hk.2.1⟩)) hg hat); have n2_ := Aside0.mk (blk_grown (g := gb214) (o := .cells #[.int .i64 a1, .int .i64 ji30, u215002] 44 (0, 0)) (by (with_reducible repeat (first | refine blk_drewN ?_ _ | refine blk_drew ?_ | refine blk_alloc ?_ _)); exact BK214.out) hg (Kd.N_ne HO_215002.out BK214.out (by decide))); have n3_ := Aside0.mk (Kd.V_afterv (ok := (fun k_ => (P0_ k_ ∨ w.heap.size ≤ k_) ∧ k_ ≠ gb214 ∧ k_ ≠ gb220)) (by (with_reducible repeat (first | apply Kd.V_alloc | apply Kd.V_drewN | apply Kd.V_drew)); exact Kd.V_mono HL218_2.out (fun _ hk => ⟨⟨hk.1, ⟨hk.2.2.1, hk.2.2.2⟩⟩, hk.2.1⟩)) hg hat); have n4_ := Aside0.mk (Kd.V_afterv (ok := (fun k_ => (P0_ k_ ∨ w.heap.size ≤ k_) ∧ k_ ≠ gb214 ∧ k_ ≠ gb220)) (by (with_reducible repeat (first | apply Kd.V_alloc | apply Kd.V_drewN | apply Kd.V_drew)); exact Kd.V_mono HL219_1.out (fun _ hk => ⟨⟨hk.1, ⟨hk.2.2.1, hk.2.2.2⟩⟩, hk.2.1⟩)) hg hat); have n5_ := Aside0.mk (blk_grown (g := gb220) (o := .cells #[.int .i64 ((rd_T46 ((rd_T44 l0 t215).f2) x16_3).f0), .slice A219_1 ((rd_T46 ((rd_T44 l0 t215).f2) x16_3).f1).length c219_1] 46 (0, 0)) (by (with_reducible repeat (first | refine blk_drewN ?_ _ | refine blk_drew ?_ | refine blk_alloc ?_ _)); exact BK220.out) hg (Kd.N_away HO_215002.out (fun _ hk => hk.2.2))); have n6_ := Aside0.mk (hb); have n7_ := Aside0.mk (ho); clear HO_0; clear HO_15; clear BK214; clear HL218_2; clear HL219_1; clear BK220; clear HB; clear HO_215002; have HO_0 := n0_; have HO_15 := n1_; have BK214 := n2_; have HL218_2 := n3_; have HL219_1 := n4_; have BK220 := n5_; have HB := n6_; have HO223 := n7_; clear n0_ n1_ n2_ n3_ n4_ n5_ n6_ n7_; clear ho hb hg hat; obtain ⟨Ao61, co61, eo61⟩ := Kd.N_slice HO223.out; subst eo61; have hcz62_0 : w60.cell? ⟨gb214, 0, none⟩ = some (.int .i64 a1) := (blk_cell BK214.out 0).trans rfl; have hcz62_1 : w60.cell? ⟨gb214, 1, none⟩ = some (.int .i64 ji30) := (blk_cell BK214.out 1).trans rfl; have hcz62_2 : w60.cell? ⟨gb214, 2, none⟩ = some (u215002) := (blk_cell BK214.out 2).trans rfl; have hfz62_0 := blk_frozen BK214.out 0; have hfz62_1 := blk_frozen BK214.out 1; have hfz62_2 := blk_frozen BK214.out 2; have hcz63_0 : w60.cell? ⟨gb220, 0, none⟩ = some (.int .i64 ((rd_T46 ((rd_T44 l0 t215).f2) x16_3).f0)) := (blk_cell BK220.out 0).trans rfl; have hcz63_1 : w60.cell? ⟨gb220, 1, none⟩ = some (.slice A219_1 ((rd_T46 ((rd_T44 l0 t215).f2) x16_3).f1).length c219_1) := (blk_cell BK220.out 1).trans rfl; have hfz63_0 := blk_frozen BK220.out 0; have hfz63_1 := blk_frozen BK220.out 1))
                  go_roundg kj31
                  case measure => have := HJ4.out; have := HJ21.out; have := HK3.out; have := HJ31.out; omega
                  case rel => exact ⟨(x14_3), (x15_3), (wrap64 (x16_3 + 1)), (y221), (.slice Ao61 y221.length co61), (by first | rfl | (simp; done) | (simp [*]; done)), (by first | rfl | (simp; done) | (simp [*]; done)), H', ⟨by have := HJ4.out; have := HJ21.out; have := HK3.out; have := HJ31.out; omega⟩, ⟨by (with_reducible repeat (first | apply Kd.V_alloc | apply Kd.V_drewN | apply Kd.V_drew)); exact Kd.V_mono (Kd.V_far (p := ⟨gb214, 2, none⟩) (Kd.V_mono HO_0.out (fun k_ hk => (⟨hk, hk.1.2.1⟩ : _ ∧ k_ ≠ gb214))) (fun _ hk => hk.2) (.slice Ao61 y221.length co61)) (fun _ hk => ⟨hk.1.1.1, ⟨hk.1.2, hk.1.1.2.1⟩⟩)⟩, ⟨by (with_reducible repeat (first | apply Kd.V_alloc | apply Kd.V_drewN | apply Kd.V_drew)); exact Kd.V_mono (Kd.V_far (p := ⟨gb214, 2, none⟩) (Kd.V_mono HO_15.out (fun k_ hk => (⟨hk, hk.1.2.1⟩ : _ ∧ k_ ≠ gb214))) (fun _ hk => hk.2) (.slice Ao61 y221.length co61)) (fun _ hk => ⟨hk.1.1.1, ⟨hk.1.2, hk.1.1.2.1⟩⟩)⟩, ⟨by (with_reducible repeat (first | apply Kd.N_alloc | apply Kd.N_drewN | apply Kd.N_drew)); exact Kd.N_mono (Kd.N_far (p := ⟨gb214, 2, none⟩) (Kd.N_mono HO223.out (fun k_ hk => (⟨hk, hk.2.1⟩ : _ ∧ k_ ≠ gb214))) (fun _ hk => hk.2) (.slice Ao61 y221.length co61)) (fun _ hk => ⟨hk.1.1, hk.1.2.1⟩)⟩, ⟨by (with_reducible repeat (first | refine blk_drewN ?_ _ | refine blk_drew ?_ | refine blk_alloc ?_ _)); refine blk_put (cs := #[.int .i64 a1, .int .i64 ji30, u215002]) ?_ 2 _ rfl; (with_reducible repeat (first | refine blk_drewN ?_ _ | refine blk_drew ?_ | refine blk_alloc ?_ _)); exact BK214.out⟩, ⟨by repeat (first | (with_reducible first | exact HB.out | apply below_alloc | apply pw_below_drewN | apply below_drew1 | refine below_set ?_ GE214.out | refine below_set ?_ GE220.out) | exact HB.out)⟩⟩
                ·rw [if_neg c42] at H
                 exact absurd H (by simp)
               ·rw [if_neg c41] at H
                have c41b0 : decide (ji30 < ((rd_T46 ((rd_T44 l0 t215).f2) x16_3).f0)) = false := decide_eq_false c41
                clear c41
                by_cases c64 : ((rd_T46 ((rd_T44 l0 t215).f2) x16_3).f0) = a2
                ·rw [if_pos c64] at H
                 have c64b0 : (((rd_T46 ((rd_T44 l0 t215).f2) x16_3).f0) == a2) = true := beq_iff_eq.mpr c64
                 have c64b1 : (((rd_T46 ((rd_T44 l0 t215).f2) x16_3).f0) != a2) = false := bne_eq_false_iff_eq.mpr c64
                 clear c64
                 have H' := Aside0.mk H
                 clear H
                 have p218 : 0 ≤ (t215 : Int) := of_decide_eq_true (by first | (with_reducible assumption) | assumption)
                 have q218 : t215 < (l0.length : Int) := of_decide_eq_true (by first | (with_reducible assumption) | assumption)
                 obtain ⟨ad218, A218_2, c218_2, e218, hx218_0, hx218_1, hx218_2, hl218_2, hi218_2⟩ := at_T44 (Kd.V_reads' HO_0.out).2.2 t215 p218 q218
                 cases e218
                 obtain ⟨ce218, hce218, hMe218, hcc218⟩ := Kd.V_get HO_0.out z44 t215 p218 (by first | exact q218 | exact of_decide_eq_true (by first | (with_reducible assumption) | assumption) | (have e_ := (Kd.V_reads' HO_0.out).1; omega))
                 obtain ⟨ua218_2, uc218_2, rfl, ul218_2, ge218_2⟩ := k44_openF hMe218
                 have hv218_2 := hcc218 2 _ rfl
                 rw [add_field _ _ 2 (by omega)] at hv218_2
                 replace hv218_2 := Option.some.inj (hv218_2.symm.trans hx218_2)
                 injection hv218_2 with hva_ hvn_ hvc_
                 rw [hva_] at ge218_2
                 rw [hvc_] at ul218_2
                 have HL218_2 := Aside0.mk (show Kd.V k46 46 _ w.heap.size _ _ ((rd_T44 l0 t215).f2) from Kd.V_mk ul218_2 ge218_2)
                 clear hva_ hvn_ hvc_ ge218_2 ul218_2
                 clear hcc218 hce218
                 have HR218_2 := Aside0.mk hi218_2
                 have HC218_2 := Aside0.mk hl218_2
                 clear hi218_2 hl218_2
                 replace p218 := eq_true p218
                 replace q218 := eq_true q218
                 have p219 : 0 ≤ (x16_3 : Int) := of_decide_eq_true (by first | (with_reducible assumption) | assumption)
                 have q219 : x16_3 < (((rd_T44 l0 t215).f2).length : Int) := of_decide_eq_true (by first | (with_reducible assumption) | assumption)
                 obtain ⟨ad219, A219_1, c219_1, e219, hx219_0, hx219_1, hl219_1, hi219_1⟩ := at_T46 (by repeat (first | (with_reducible exact HR218_2.out) | (with_reducible refine Kd.C_alloc ?_ _) | (with_reducible refine Kd.C_drewN ?_ _) | (with_reducible refine Kd.C_drew ?_) | exact HR218_2.out)) x16_3 p219 q219
                 cases e219
                 obtain ⟨ce219, hce219, hMe219, hcc219⟩ := Kd.V_get HL218_2.out z46 x16_3 p219 (by first | exact q219 | exact of_decide_eq_true (by first | (with_reducible assumption) | assumption) | (have e_ := (Kd.V_reads' HL218_2.out).1; omega))
                 obtain ⟨ua219_1, uc219_1, rfl, ul219_1, ge219_1⟩ := k46_openF hMe219
                 have hv219_1 := hcc219 1 _ rfl
                 rw [add_field _ _ 1 (by omega)] at hv219_1
                 replace hv219_1 := Option.some.inj (hv219_1.symm.trans hx219_1)
                 injection hv219_1 with hva_ hvn_ hvc_
                 rw [hva_] at ge219_1
                 rw [hvc_] at ul219_1
                 have HL219_1 := Aside0.mk (show Kd.V (Kd.int .u8) 5 _ w.heap.size _ _ ((rd_T46 ((rd_T44 l0 t215).f2) x16_3).f1) from Kd.V_mk ul219_1 ge219_1)
                 clear hva_ hvn_ hvc_ ge219_1 ul219_1
                 clear hcc219 hce219
                 have HR219_1 := Aside0.mk hi219_1
                 have HC219_1 := Aside0.mk hl219_1
                 clear hi219_1 hl219_1
                 replace p219 := eq_true p219
                 replace q219 := eq_true q219
                 go_wp2_with (first | ((with_reducible refine gate_dst (N := 17) rfl ?_); (try (refine gate_guard (by rfl) ?_; dsimp only)); refine box_event ?hg (N := 17) ?hd (cs := #[.int .i64 0, .slice none 0 0]) (t := 46) ?hr ?_; (case hd => rfl); (case hg => rfl); (case hr => first | (go_simp; done) | (go_simp; rfl)); intro gb220 hg w65 hbox hb; have n0_ := Aside0.mk (Kd.V_below (Kd.V_elderB (by (with_reducible repeat (first | apply Kd.V_alloc | apply Kd.V_drewN | apply Kd.V_drew)); exact HO_0.out) gb220 (Nat.le_of_eq hg.symm)) hb); have n1_ := Aside0.mk (Kd.V_below (Kd.V_elderB (by (with_reducible repeat (first | apply Kd.V_alloc | apply Kd.V_drewN | apply Kd.V_drew)); exact HO_15.out) gb220 (Nat.le_of_eq hg.symm)) hb); have n2_ := Aside0.mk (Kd.N_below (Kd.N_elderB (by (with_reducible repeat (first | apply Kd.N_alloc | apply Kd.N_drewN | apply Kd.N_drew)); exact HO_215002.out) gb220 (Nat.le_of_eq hg.symm)) hb); have n3_ := Aside0.mk (Kd.V_below (Kd.V_elderB (by (with_reducible repeat (first | apply Kd.V_alloc | apply Kd.V_drewN | apply Kd.V_drew)); exact HL218_2.out) gb220 (Nat.le_of_eq hg.symm)) hb); have n4_ := Aside0.mk (Kd.V_below (Kd.V_elderB (by (with_reducible repeat (first | apply Kd.V_alloc | apply Kd.V_drewN | apply Kd.V_drew)); exact HL219_1.out) gb220 (Nat.le_of_eq hg.symm)) hb); have n5_ := Aside0.mk (blk_below (g := gb214) (o := .cells #[.int .i64 a1, .int .i64 ji30, u215002] 44 (0, 0)) (by (with_reducible repeat (first | refine blk_drewN ?_ _ | refine blk_drew ?_ | refine blk_alloc ?_ _)); exact BK214.out) hb); have n6_ := Aside0.mk (Kd.C_below (by repeat (first | (with_reducible exact HR218_2.out) | (with_reducible refine Kd.C_alloc ?_ _) | (with_reducible refine Kd.C_drewN ?_ _) | (with_reducible refine Kd.C_drew ?_) | exact HR218_2.out)) hb); have n7_ := Aside0.mk (Kd.C_below (by repeat (first | (with_reducible exact HR219_1.out) | (with_reducible refine Kd.C_alloc ?_ _) | (with_reducible refine Kd.C_drewN ?_ _) | (with_reducible refine Kd.C_drew ?_) | exact HR219_1.out)) hb); have n8_ := Aside0.mk (below_step (by repeat (first | (with_reducible first | exact HB.out | apply below_alloc | apply pw_below_drewN | apply below_drew1 | refine below_set ?_ GE214.out) | exact HB.out)) hb); have n9_ := Aside0.mk (hbox); have n10_ := Aside0.mk ((by rw [hg]; exact (below_size (by repeat (first | (with_reducible first | exact HB.out | apply below_alloc | apply pw_below_drewN | apply below_drew1 | refine below_set ?_ GE214.out) | exact HB.out))) : w.heap.size ≤ gb220)); have n11_ := Aside0.mk ((by rw [hg]; exact (below_size (by repeat (first | (with_reducible first | exact HB.out | apply below_alloc | apply pw_below_drewN | apply below_drew1 | refine below_set ?_ GE214.out) | exact HB.out))) : w.heap.size ≤ gb220)); have n12_ := Aside0.mk ((by rw [hg]; exact Nat.ne_of_lt (blk_lt (g := gb214) (o := .cells #[.int .i64 a1, .int .i64 ji30, u215002] 44 (0, 0)) (by (with_reducible repeat (first | refine blk_drewN ?_ _ | refine blk_drew ?_ | refine blk_alloc ?_ _)); exact BK214.out)) : gb214 ≠ gb220)); have n13_ := Aside0.mk ((by rw [hg]; exact Nat.ne_of_gt (blk_lt (g := gb214) (o := .cells #[.int .i64 a1, .int .i64 ji30, u215002] 44 (0, 0)) (by (with_reducible repeat (first | refine blk_drewN ?_ _ | refine blk_drew ?_ | refine blk_alloc ?_ _)); exact BK214.out)) : gb220 ≠ gb214)); clear HO_0; clear HO_15; clear HO_215002; clear HL218_2; clear HL219_1; clear BK214; clear HR218_2; clear HR219_1; clear HB; have HO_0 := n0_; have HO_15 := n1_; have HO_215002 := n2_; have HL218_2 := n3_; have HL219_1 := n4_; have BK214 := n5_; have HR218_2 := n6_; have HR219_1 := n7_; have HB := n8_; have BK220 := n9_; have GW220 := n10_; have GE220 := n11_; have NB214_220 := n12_; have NB220_214 := n13_; clear n0_ n1_ n2_ n3_ n4_ n5_ n6_ n7_ n8_ n9_ n10_ n11_ n12_ n13_; clear hb hbox hg; have hnb66 := NB220_214.out; have hnc66 := NB214_220.out; have hcz67_0 : w65.cell? ⟨gb220, 0, none⟩ = some (.int .i64 0) := (blk_cell BK220.out 0).trans rfl; have hcz67_1 : w65.cell? ⟨gb220, 1, none⟩ = some (.slice none 0 0) := (blk_cell BK220.out 1).trans rfl; have hfz67_0 := blk_frozen BK220.out 0; have hfz67_1 := blk_frozen BK220.out 1; have hcz68_0 : w65.cell? ⟨gb214, 0, none⟩ = some (.int .i64 a1) := (blk_cell BK214.out 0).trans rfl; have hcz68_1 : w65.cell? ⟨gb214, 1, none⟩ = some (.int .i64 ji30) := (blk_cell BK214.out 1).trans rfl; have hcz68_2 : w65.cell? ⟨gb214, 2, none⟩ = some (u215002) := (blk_cell BK214.out 2).trans rfl; have hfz68_0 := blk_frozen BK214.out 0; have hfz68_1 := blk_frozen BK214.out 1; have hfz68_2 := blk_frozen BK214.out 2))
                 go_roundg kj31
                 case measure => have := HJ4.out; have := HJ21.out; have := HK3.out; have := HJ31.out; omega
                 case rel => exact ⟨(2), ((rd_T46 ((rd_T44 l0 t215).f2) x16_3).f1), (wrap64 (x16_3 + 1)), (x215002_3), (u215002), (by first | rfl | (simp; done) | (simp [*]; done)), (by first | rfl | (simp; done) | (simp [*]; done)), H', ⟨by have := HJ4.out; have := HJ21.out; have := HK3.out; have := HJ31.out; omega⟩, ⟨by (with_reducible repeat (first | apply Kd.V_alloc | apply Kd.V_drewN | apply Kd.V_drew)); exact Kd.V_mono (Kd.V_far (p := ⟨gb220, 1, none⟩) (Kd.V_far (p := ⟨gb220, 0, none⟩) (Kd.V_mono HO_0.out (fun k_ hk => (⟨hk, hk.2⟩ : _ ∧ k_ ≠ gb220))) (fun _ hk => hk.2) (.int .i64 ((rd_T46 ((rd_T44 l0 t215).f2) x16_3).f0))) (fun _ hk => hk.2) (.slice A219_1 ((rd_T46 ((rd_T44 l0 t215).f2) x16_3).f1).length c219_1)) (fun _ hk => ⟨hk.1.1.1, ⟨hk.1.1.2.1, hk.1.1.2.2⟩⟩)⟩, ⟨by (with_reducible repeat (first | apply Kd.V_alloc | apply Kd.V_drewN | apply Kd.V_drew)); exact Kd.V_mono (Kd.V_far (p := ⟨gb220, 1, none⟩) (Kd.V_far (p := ⟨gb220, 0, none⟩) (Kd.V_mono HL219_1.out (fun k_ hk => (⟨hk, hk.2⟩ : _ ∧ k_ ≠ gb220))) (fun _ hk => hk.2) (.int .i64 ((rd_T46 ((rd_T44 l0 t215).f2) x16_3).f0))) (fun _ hk => hk.2) (.slice A219_1 ((rd_T46 ((rd_T44 l0 t215).f2) x16_3).f1).length c219_1)) (fun _ hk => ⟨hk.1.1.1, ⟨hk.1.1.2.1, hk.1.1.2.2⟩⟩)⟩, ⟨by (with_reducible repeat (first | apply Kd.N_alloc | apply Kd.N_drewN | apply Kd.N_drew)); exact Kd.N_mono (Kd.N_far (p := ⟨gb220, 1, none⟩) (Kd.N_far (p := ⟨gb220, 0, none⟩) (Kd.N_mono HO_215002.out (fun k_ hk => (⟨hk, hk.2⟩ : _ ∧ k_ ≠ gb220))) (fun _ hk => hk.2) (.int .i64 ((rd_T46 ((rd_T44 l0 t215).f2) x16_3).f0))) (fun _ hk => hk.2) (.slice A219_1 ((rd_T46 ((rd_T44 l0 t215).f2) x16_3).f1).length c219_1)) (fun _ hk => ⟨hk.1.1.1, hk.1.1.2⟩)⟩, ⟨by (with_reducible repeat (first | refine blk_drewN ?_ _ | refine blk_drew ?_ | refine blk_alloc ?_ _)); refine blk_far ?_ NB214_220.out _; (with_reducible repeat (first | refine blk_drewN ?_ _ | refine blk_drew ?_ | refine blk_alloc ?_ _)); refine blk_far ?_ NB214_220.out _; (with_reducible repeat (first | refine blk_drewN ?_ _ | refine blk_drew ?_ | refine blk_alloc ?_ _)); exact BK214.out⟩, ⟨by repeat (first | (with_reducible first | exact HB.out | apply below_alloc | apply pw_below_drewN | apply below_drew1 | refine below_set ?_ GE214.out | refine below_set ?_ GE220.out) | exact HB.out)⟩⟩
                ·rw [if_neg c64] at H
                 have c64b0 : (((rd_T46 ((rd_T44 l0 t215).f2) x16_3).f0) == a2) = false := beq_eq_false_iff_ne.mpr c64
                 have c64b1 : (((rd_T46 ((rd_T44 l0 t215).f2) x16_3).f0) != a2) = true := bne_iff_ne.mpr c64
                 have H' := Aside0.mk H
                 clear H
                 have p218 : 0 ≤ (t215 : Int) := of_decide_eq_true (by first | (with_reducible assumption) | assumption)
                 have q218 : t215 < (l0.length : Int) := of_decide_eq_true (by first | (with_reducible assumption) | assumption)
                 obtain ⟨ad218, A218_2, c218_2, e218, hx218_0, hx218_1, hx218_2, hl218_2, hi218_2⟩ := at_T44 (Kd.V_reads' HO_0.out).2.2 t215 p218 q218
                 cases e218
                 obtain ⟨ce218, hce218, hMe218, hcc218⟩ := Kd.V_get HO_0.out z44 t215 p218 (by first | exact q218 | exact of_decide_eq_true (by first | (with_reducible assumption) | assumption) | (have e_ := (Kd.V_reads' HO_0.out).1; omega))
                 obtain ⟨ua218_2, uc218_2, rfl, ul218_2, ge218_2⟩ := k44_openF hMe218
                 have hv218_2 := hcc218 2 _ rfl
                 rw [add_field _ _ 2 (by omega)] at hv218_2
                 replace hv218_2 := Option.some.inj (hv218_2.symm.trans hx218_2)
                 injection hv218_2 with hva_ hvn_ hvc_
                 rw [hva_] at ge218_2
                 rw [hvc_] at ul218_2
                 have HL218_2 := Aside0.mk (show Kd.V k46 46 _ w.heap.size _ _ ((rd_T44 l0 t215).f2) from Kd.V_mk ul218_2 ge218_2)
                 clear hva_ hvn_ hvc_ ge218_2 ul218_2
                 clear hcc218 hce218
                 have HR218_2 := Aside0.mk hi218_2
                 have HC218_2 := Aside0.mk hl218_2
                 clear hi218_2 hl218_2
                 replace p218 := eq_true p218
                 replace q218 := eq_true q218
                 have p219 : 0 ≤ (x16_3 : Int) := of_decide_eq_true (by first | (with_reducible assumption) | assumption)
                 have q219 : x16_3 < (((rd_T44 l0 t215).f2).length : Int) := of_decide_eq_true (by first | (with_reducible assumption) | assumption)
                 obtain ⟨ad219, A219_1, c219_1, e219, hx219_0, hx219_1, hl219_1, hi219_1⟩ := at_T46 (by repeat (first | (with_reducible exact HR218_2.out) | (with_reducible refine Kd.C_alloc ?_ _) | (with_reducible refine Kd.C_drewN ?_ _) | (with_reducible refine Kd.C_drew ?_) | exact HR218_2.out)) x16_3 p219 q219
                 cases e219
                 obtain ⟨ce219, hce219, hMe219, hcc219⟩ := Kd.V_get HL218_2.out z46 x16_3 p219 (by first | exact q219 | exact of_decide_eq_true (by first | (with_reducible assumption) | assumption) | (have e_ := (Kd.V_reads' HL218_2.out).1; omega))
                 obtain ⟨ua219_1, uc219_1, rfl, ul219_1, ge219_1⟩ := k46_openF hMe219
                 have hv219_1 := hcc219 1 _ rfl
                 rw [add_field _ _ 1 (by omega)] at hv219_1
                 replace hv219_1 := Option.some.inj (hv219_1.symm.trans hx219_1)
                 injection hv219_1 with hva_ hvn_ hvc_
                 rw [hva_] at ge219_1
                 rw [hvc_] at ul219_1
                 have HL219_1 := Aside0.mk (show Kd.V (Kd.int .u8) 5 _ w.heap.size _ _ ((rd_T46 ((rd_T44 l0 t215).f2) x16_3).f1) from Kd.V_mk ul219_1 ge219_1)
                 clear hva_ hvn_ hvc_ ge219_1 ul219_1
                 clear hcc219 hce219
                 have HR219_1 := Aside0.mk hi219_1
                 have HC219_1 := Aside0.mk hl219_1
                 clear hi219_1 hl219_1
                 replace p219 := eq_true p219
                 replace q219 := eq_true q219
                 go_wp2_with (first | ((with_reducible refine gate_dst (N := 17) rfl ?_); (try (refine gate_guard (by rfl) ?_; dsimp only)); refine box_event ?hg (N := 17) ?hd (cs := #[.int .i64 0, .slice none 0 0]) (t := 46) ?hr ?_; (case hd => rfl); (case hg => rfl); (case hr => first | (go_simp; done) | (go_simp; rfl)); intro gb220 hg w69 hbox hb; have n0_ := Aside0.mk (Kd.V_below (Kd.V_elderB (by (with_reducible repeat (first | apply Kd.V_alloc | apply Kd.V_drewN | apply Kd.V_drew)); exact HO_0.out) gb220 (Nat.le_of_eq hg.symm)) hb); have n1_ := Aside0.mk (Kd.V_below (Kd.V_elderB (by (with_reducible repeat (first | apply Kd.V_alloc | apply Kd.V_drewN | apply Kd.V_drew)); exact HO_15.out) gb220 (Nat.le_of_eq hg.symm)) hb); have n2_ := Aside0.mk (Kd.N_below (Kd.N_elderB (by (with_reducible repeat (first | apply Kd.N_alloc | apply Kd.N_drewN | apply Kd.N_drew)); exact HO_215002.out) gb220 (Nat.le_of_eq hg.symm)) hb); have n3_ := Aside0.mk (Kd.V_below (Kd.V_elderB (by (with_reducible repeat (first | apply Kd.V_alloc | apply Kd.V_drewN | apply Kd.V_drew)); exact HL218_2.out) gb220 (Nat.le_of_eq hg.symm)) hb); have n4_ := Aside0.mk (Kd.V_below (Kd.V_elderB (by (with_reducible repeat (first | apply Kd.V_alloc | apply Kd.V_drewN | apply Kd.V_drew)); exact HL219_1.out) gb220 (Nat.le_of_eq hg.symm)) hb); have n5_ := Aside0.mk (blk_below (g := gb214) (o := .cells #[.int .i64 a1, .int .i64 ji30, u215002] 44 (0, 0)) (by (with_reducible repeat (first | refine blk_drewN ?_ _ | refine blk_drew ?_ | refine blk_alloc ?_ _)); exact BK214.out) hb); have n6_ := Aside0.mk (Kd.C_below (by repeat (first | (with_reducible exact HR218_2.out) | (with_reducible refine Kd.C_alloc ?_ _) | (with_reducible refine Kd.C_drewN ?_ _) | (with_reducible refine Kd.C_drew ?_) | exact HR218_2.out)) hb); have n7_ := Aside0.mk (Kd.C_below (by repeat (first | (with_reducible exact HR219_1.out) | (with_reducible refine Kd.C_alloc ?_ _) | (with_reducible refine Kd.C_drewN ?_ _) | (with_reducible refine Kd.C_drew ?_) | exact HR219_1.out)) hb); have n8_ := Aside0.mk (below_step (by repeat (first | (with_reducible first | exact HB.out | apply below_alloc | apply pw_below_drewN | apply below_drew1 | refine below_set ?_ GE214.out) | exact HB.out)) hb); have n9_ := Aside0.mk (hbox); have n10_ := Aside0.mk ((by rw [hg]; exact (below_size (by repeat (first | (with_reducible first | exact HB.out | apply below_alloc | apply pw_below_drewN | apply below_drew1 | refine below_set ?_ GE214.out) | exact HB.out))) : w.heap.size ≤ gb220)); have n11_ := Aside0.mk ((by rw [hg]; exact (below_size (by repeat (first | (with_reducible first | exact HB.out | apply below_alloc | apply pw_below_drewN | apply below_drew1 | refine below_set ?_ GE214.out) | exact HB.out))) : w.heap.size ≤ gb220)); have n12_ := Aside0.mk ((by rw [hg]; exact Nat.ne_of_lt (blk_lt (g := gb214) (o := .cells #[.int .i64 a1, .int .i64 ji30, u215002] 44 (0, 0)) (by (with_reducible repeat (first | refine blk_drewN ?_ _ | refine blk_drew ?_ | refine blk_alloc ?_ _)); exact BK214.out)) : gb214 ≠ gb220)); have n13_ := Aside0.mk ((by rw [hg]; exact Nat.ne_of_gt (blk_lt (g := gb214) (o := .cells #[.int .i64 a1, .int .i64 ji30, u215002] 44 (0, 0)) (by (with_reducible repeat (first | refine blk_drewN ?_ _ | refine blk_drew ?_ | refine blk_alloc ?_ _)); exact BK214.out)) : gb220 ≠ gb214)); clear HO_0; clear HO_15; clear HO_215002; clear HL218_2; clear HL219_1; clear BK214; clear HR218_2; clear HR219_1; clear HB; have HO_0 := n0_; have HO_15 := n1_; have HO_215002 := n2_; have HL218_2 := n3_; have HL219_1 := n4_; have BK214 := n5_; have HR218_2 := n6_; have HR219_1 := n7_; have HB := n8_; have BK220 := n9_; have GW220 := n10_; have GE220 := n11_; have NB214_220 := n12_; have NB220_214 := n13_; clear n0_ n1_ n2_ n3_ n4_ n5_ n6_ n7_ n8_ n9_ n10_ n11_ n12_ n13_; clear hb hbox hg; have hnb70 := NB220_214.out; have hnc70 := NB214_220.out; have hcz71_0 : w69.cell? ⟨gb220, 0, none⟩ = some (.int .i64 0) := (blk_cell BK220.out 0).trans rfl; have hcz71_1 : w69.cell? ⟨gb220, 1, none⟩ = some (.slice none 0 0) := (blk_cell BK220.out 1).trans rfl; have hfz71_0 := blk_frozen BK220.out 0; have hfz71_1 := blk_frozen BK220.out 1; have hcz72_0 : w69.cell? ⟨gb214, 0, none⟩ = some (.int .i64 a1) := (blk_cell BK214.out 0).trans rfl; have hcz72_1 : w69.cell? ⟨gb214, 1, none⟩ = some (.int .i64 ji30) := (blk_cell BK214.out 1).trans rfl; have hcz72_2 : w69.cell? ⟨gb214, 2, none⟩ = some (u215002) := (blk_cell BK214.out 2).trans rfl; have hfz72_0 := blk_frozen BK214.out 0; have hfz72_1 := blk_frozen BK214.out 1; have hfz72_2 := blk_frozen BK214.out 2))
                 go_roundg kj31
                 case measure => have := HJ4.out; have := HJ21.out; have := HK3.out; have := HJ31.out; omega
                 case rel => exact ⟨(x14_3), (x15_3), (wrap64 (x16_3 + 1)), (x215002_3), (u215002), (by first | rfl | (simp; done) | (simp [*]; done)), (by first | rfl | (simp; done) | (simp [*]; done)), H', ⟨by have := HJ4.out; have := HJ21.out; have := HK3.out; have := HJ31.out; omega⟩, ⟨by (with_reducible repeat (first | apply Kd.V_alloc | apply Kd.V_drewN | apply Kd.V_drew)); exact Kd.V_mono (Kd.V_far (p := ⟨gb220, 1, none⟩) (Kd.V_far (p := ⟨gb220, 0, none⟩) (Kd.V_mono HO_0.out (fun k_ hk => (⟨hk, hk.2⟩ : _ ∧ k_ ≠ gb220))) (fun _ hk => hk.2) (.int .i64 ((rd_T46 ((rd_T44 l0 t215).f2) x16_3).f0))) (fun _ hk => hk.2) (.slice A219_1 ((rd_T46 ((rd_T44 l0 t215).f2) x16_3).f1).length c219_1)) (fun _ hk => ⟨hk.1.1.1, ⟨hk.1.1.2.1, hk.1.1.2.2⟩⟩)⟩, ⟨by (with_reducible repeat (first | apply Kd.V_alloc | apply Kd.V_drewN | apply Kd.V_drew)); exact Kd.V_mono (Kd.V_far (p := ⟨gb220, 1, none⟩) (Kd.V_far (p := ⟨gb220, 0, none⟩) (Kd.V_mono HO_15.out (fun k_ hk => (⟨hk, hk.2⟩ : _ ∧ k_ ≠ gb220))) (fun _ hk => hk.2) (.int .i64 ((rd_T46 ((rd_T44 l0 t215).f2) x16_3).f0))) (fun _ hk => hk.2) (.slice A219_1 ((rd_T46 ((rd_T44 l0 t215).f2) x16_3).f1).length c219_1)) (fun _ hk => ⟨hk.1.1.1, ⟨hk.1.1.2.1, hk.1.1.2.2⟩⟩)⟩, ⟨by (with_reducible repeat (first | apply Kd.N_alloc | apply Kd.N_drewN | apply Kd.N_drew)); exact Kd.N_mono (Kd.N_far (p := ⟨gb220, 1, none⟩) (Kd.N_far (p := ⟨gb220, 0, none⟩) (Kd.N_mono HO_215002.out (fun k_ hk => (⟨hk, hk.2⟩ : _ ∧ k_ ≠ gb220))) (fun _ hk => hk.2) (.int .i64 ((rd_T46 ((rd_T44 l0 t215).f2) x16_3).f0))) (fun _ hk => hk.2) (.slice A219_1 ((rd_T46 ((rd_T44 l0 t215).f2) x16_3).f1).length c219_1)) (fun _ hk => ⟨hk.1.1.1, hk.1.1.2⟩)⟩, ⟨by (with_reducible repeat (first | refine blk_drewN ?_ _ | refine blk_drew ?_ | refine blk_alloc ?_ _)); refine blk_far ?_ NB214_220.out _; (with_reducible repeat (first | refine blk_drewN ?_ _ | refine blk_drew ?_ | refine blk_alloc ?_ _)); refine blk_far ?_ NB214_220.out _; (with_reducible repeat (first | refine blk_drewN ?_ _ | refine blk_drew ?_ | refine blk_alloc ?_ _)); exact BK214.out⟩, ⟨by repeat (first | (with_reducible first | exact HB.out | apply below_alloc | apply pw_below_drewN | apply below_drew1 | refine below_set ?_ GE214.out | refine below_set ?_ GE220.out) | exact HB.out)⟩⟩
              ·rw [if_neg c40] at H
               exact absurd H (by simp)
             ·rw [if_neg c39] at H
              exact absurd H (by simp)
            ·rw [if_neg c38] at H
             exact absurd H (by simp)
           ·rw [if_neg c37] at H
            exact absurd H (by simp)
          ·replace c36 := Bool.eq_false_iff.mpr c36
           subst c36
           have H1 : (if x14_3 = 1 then (musterref09_Look.j4 kj31 l0 a2 x14_3 x15_3 (decide ((x215002_3.length : Int) ≥ 8)) a1 ji30 x215002_3) else (musterref09_Look.j4 kj31 l0 a2 x14_3 x15_3 false a1 ji30 x215002_3)) = some (r1, r2, r3, r4) := by rw [if_neg (show ¬ (false = true) by decide)] at H; exact H
           clear H
           have H := H1
           clear H1
           have HC73 := Aside0.mk H
           clear H
           go_upto_region 21 with (fail)
           go_cut [113] (fun v113 wc => ∃ (kq : Nat) (x113_72 : Bool), v113 = .bool x113_72 ∧ Aside0 (musterref09_Look.j4 kq l0 a2 x14_3 x15_3 x113_72 a1 ji30 x215002_3 = some (r1, r2, r3, r4)) ∧ Aside0 (kq ≤ kj31) ∧ Aside0 (Kd.V k44 44 wc w.heap.size (fun k_ => (P0_ k_ ∨ w.heap.size ≤ k_) ∧ some k_ ≠ (u215002 : Value).ownBlock ∧ k_ ≠ gb214) (.slice A0 l0.length c0) l0) ∧ Aside0 (Kd.V (Kd.int .u8) 5 wc w.heap.size (fun k_ => (P0_ k_ ∨ w.heap.size ≤ k_) ∧ some k_ ≠ (u215002 : Value).ownBlock ∧ k_ ≠ gb214) u15 x15_3) ∧ Aside0 (Kd.N k46 46 wc w.heap.size (fun k_ => (P0_ k_ ∨ w.heap.size ≤ k_) ∧ k_ ≠ gb214) u215002 x215002_3) ∧ Aside0 (wc.heap[gb214]? = some (.cells #[.int .i64 a1, .int .i64 ji30, u215002] 44 (0, 0))) ∧ Aside0 (Below w.heap.size w wc))
           case first =>
            have H := HC73.out
            clear HC73
            by_cases c74 : x14_3 = 1
            ·rw [if_pos c74] at H
             have c74b0 : (x14_3 == 1) = true := beq_iff_eq.mpr c74
             have c74b1 : (x14_3 != 1) = false := bne_eq_false_iff_eq.mpr c74
             clear c74
             (first | rw [c74b0] | (simp only [i64_w, i32_w]; rw [c74b0]) | skip)
             have H' := Aside0.mk H
             clear H
             have hcz75_0 : wc.cell? ⟨gb214, 0, none⟩ = some (.int .i64 a1) := (blk_cell BK214.out 0).trans rfl
             have hcz75_1 : wc.cell? ⟨gb214, 1, none⟩ = some (.int .i64 ji30) := (blk_cell BK214.out 1).trans rfl
             have hcz75_2 : wc.cell? ⟨gb214, 2, none⟩ = some (u215002) := (blk_cell BK214.out 2).trans rfl
             have hfz75_0 := blk_frozen BK214.out 0
             have hfz75_1 := blk_frozen BK214.out 1
             have hfz75_2 := blk_frozen BK214.out 2
             obtain ⟨Ao76, co76, eo76⟩ := Kd.N_slice HO_215002.out
             subst eo76
             go_wp2
             go_meet
             case rel => exact ⟨_, (decide ((x215002_3.length : Int) ≥ 8)), (by first | rfl | (simp; done) | (simp [*]; done)), H', ⟨by have := HJ4.out; have := HJ21.out; have := HK3.out; have := HJ31.out; first | omega | exact Nat.le_refl _⟩, ⟨by (with_reducible repeat (first | apply Kd.V_alloc | apply Kd.V_drewN | apply Kd.V_drew)); exact HO_0.out⟩, ⟨by (with_reducible repeat (first | apply Kd.V_alloc | apply Kd.V_drewN | apply Kd.V_drew)); exact HO_15.out⟩, ⟨by (with_reducible repeat (first | apply Kd.N_alloc | apply Kd.N_drewN | apply Kd.N_drew)); exact HO_215002.out⟩, ⟨by (with_reducible repeat (first | refine blk_drewN ?_ _ | refine blk_drew ?_ | refine blk_alloc ?_ _)); exact BK214.out⟩, ⟨by repeat (first | (with_reducible first | exact HB.out | apply below_alloc | apply pw_below_drewN | apply below_drew1 | refine below_set ?_ GE214.out) | exact HB.out)⟩⟩
            ·rw [if_neg c74] at H
             have c74b0 : (x14_3 == 1) = false := beq_eq_false_iff_ne.mpr c74
             have c74b1 : (x14_3 != 1) = true := bne_iff_ne.mpr c74
             (first | rw [c74b0] | (simp only [i64_w, i32_w]; rw [c74b0]) | skip)
             have H' := Aside0.mk H
             clear H
             go_wp2
             go_meet
             case rel => exact ⟨_, (false), (by first | rfl | (simp; done) | (simp [*]; done)), H', ⟨by have := HJ4.out; have := HJ21.out; have := HK3.out; have := HJ31.out; first | omega | exact Nat.le_refl _⟩, ⟨by (with_reducible repeat (first | apply Kd.V_alloc | apply Kd.V_drewN | apply Kd.V_drew)); exact HO_0.out⟩, ⟨by (with_reducible repeat (first | apply Kd.V_alloc | apply Kd.V_drewN | apply Kd.V_drew)); exact HO_15.out⟩, ⟨by (with_reducible repeat (first | apply Kd.N_alloc | apply Kd.N_drewN | apply Kd.N_drew)); exact HO_215002.out⟩, ⟨by (with_reducible repeat (first | refine blk_drewN ?_ _ | refine blk_drew ?_ | refine blk_alloc ?_ _)); exact BK214.out⟩, ⟨by repeat (first | (with_reducible first | exact HB.out | apply below_alloc | apply pw_below_drewN | apply below_drew1 | refine below_set ?_ GE214.out) | exact HB.out)⟩⟩
           case rest =>
            clear HC73
            try clear c1
            try clear c2
            try clear p2
            try clear q2
            try clear hx2
            try clear c3
            try clear c4
            try clear c5
            try clear c6
            try clear p6
            try clear c7
            try clear c8
            try clear c8b0
            try clear c10
            try clear c10b0
            try clear c11
            try clear c12
            try clear c12b0
            try clear c14
            try clear c14b0
            try clear c15
            try clear c16
            try clear c16b0
            try clear c20
            try clear c21
            try clear p21
            try clear q21
            try clear hx21
            try clear c25
            try clear c25b0
            try clear c26
            try clear c26b0
            try clear c27
            try clear c27b0
            try clear c29
            try clear c29b0
            try clear c29b1
            try clear c33
            try clear c33b0
            try clear c34
            try clear c34b0
            try clear c35
            try clear c35b0
            try clear c36
            try clear c37
            try clear c37b0
            try clear c38
            try clear c38b0
            try clear c39
            try clear c39b0
            try clear c40
            try clear c40b0
            try clear c41
            try clear c41b0
            try clear c42
            try clear c43
            try clear c43b0
            try clear c43b1
            try clear c45
            try clear c55
            try clear c64
            try clear c64b0
            try clear c64b1
            try clear p64
            try clear c66
            try clear c70
            try clear c74
            try clear c74b0
            try clear c74b1
            try clear hcz24_0
            try clear hcz24_1
            try clear hcz24_2
            try clear hcz28_0
            try clear hcz28_1
            try clear hcz28_2
            try clear hcz31_0
            try clear hcz31_1
            try clear hcz31_2
            try clear hcz46_0
            try clear hcz46_1
            try clear hcz48_0
            try clear hcz48_1
            try clear hcz49_0
            try clear hcz49_1
            try clear hcz49_2
            try clear hcz52_0
            try clear hcz52_1
            try clear hcz52_2
            try clear hcz53_0
            try clear hcz53_1
            try clear hcz56_0
            try clear hcz56_1
            try clear hcz58_0
            try clear hcz58_1
            try clear hcz59_0
            try clear hcz59_1
            try clear hcz59_2
            try clear hcz62_0
            try clear hcz62_1
            try clear hcz62_2
            try clear hcz63_0
            try clear hcz63_1
            try clear hcz67_0
            try clear hcz67_1
            try clear hcz68_0
            try clear hcz68_1
            try clear hcz68_2
            try clear hcz71_0
            try clear hcz71_1
            try clear hcz72_0
            try clear hcz72_1
            try clear hcz72_2
            try clear hcz75_0
            try clear hcz75_1
            try clear hcz75_2
            try clear hfz24_0
            try clear hfz24_1
            try clear hfz24_2
            try clear hfz28_0
            try clear hfz28_1
            try clear hfz28_2
            try clear hfz31_0
            try clear hfz31_1
            try clear hfz31_2
            try clear hfz46_0
            try clear hfz46_1
            try clear hfz48_0
            try clear hfz48_1
            try clear hfz49_0
            try clear hfz49_1
            try clear hfz49_2
            try clear hfz52_0
            try clear hfz52_1
            try clear hfz52_2
            try clear hfz53_0
            try clear hfz53_1
            try clear hfz56_0
            try clear hfz56_1
            try clear hfz58_0
            try clear hfz58_1
            try clear hfz59_0
            try clear hfz59_1
            try clear hfz59_2
            try clear hfz62_0
            try clear hfz62_1
            try clear hfz62_2
            try clear hfz63_0
            try clear hfz63_1
            try clear hfz67_0
            try clear hfz67_1
            try clear hfz68_0
            try clear hfz68_1
            try clear hfz68_2
            try clear hfz71_0
            try clear hfz71_1
            try clear hfz72_0
            try clear hfz72_1
            try clear hfz72_2
            try clear hfz75_0
            try clear hfz75_1
            try clear hfz75_2
            try clear hx216_0
            try clear hx216_1
            try clear hx216_2
            try clear hx217_0
            try clear hx217_1
            try clear hx217_2
            try clear hx218_0
            try clear hx218_1
            try clear hx218_2
            try clear hx219_0
            try clear hx219_1
            try clear p2
            try clear p21
            try clear p216
            try clear p217
            try clear p218
            try clear p219
            try clear q2
            try clear q21
            try clear q216
            try clear q217
            try clear q218
            try clear q219
            obtain ⟨kq, x113_72, rfl, HA, HJ72, HO_0, HO_15, HO_215002, BK214, HB⟩ := hcut
            cases kq with
            | zero => exact absurd HA.out (by simp [musterref09_Look.j4])
            | succ kj72 =>
             have H := HA.out
             clear HA
             simp only [musterref09_Look.j4] at H
             by_cases c77 : x113_72 = true
             ·subst c77
              have H1 : (if a2 ≤ ji30 then ((musterref09_with.f kj72 l0 a1 ji30 x215002_3).bind fun t224 => (some (t224, 3, ([] : List Int), 0))) else ((musterref09_with.f kj72 l0 a1 ji30 x215002_3).bind fun t227 => (some (t227, 4, x15_3, 0)))) = some (r1, r2, r3, r4) := by rw [if_pos rfl] at H; exact H
              clear H
              have H := H1
              clear H1
              by_cases c78 : a2 ≤ ji30
              ·rw [if_pos c78] at H
               have c78b0 : decide (a2 ≤ ji30) = true := decide_eq_true c78
               clear c78
               replace H := Option.bind_eq_some_iff.mp H
               obtain ⟨t224, A790, H⟩ := H
               replace H : (some (t224, 3, ([] : List Int), 0)) = some (r1, r2, r3, r4) := H
               have A79 := Aside0.mk A790
               clear A790
               simp only [Option.some.injEq, Prod.mk.injEq] at H
               obtain ⟨rfl, rfl, rfl, rfl⟩ := H
               have hcz80_0 : wc.cell? ⟨gb214, 0, none⟩ = some (.int .i64 a1) := (blk_cell BK214.out 0).trans rfl
               have hcz80_1 : wc.cell? ⟨gb214, 1, none⟩ = some (.int .i64 ji30) := (blk_cell BK214.out 1).trans rfl
               have hcz80_2 : wc.cell? ⟨gb214, 2, none⟩ = some (u215002) := (blk_cell BK214.out 2).trans rfl
               have hfz80_0 := blk_frozen BK214.out 0
               have hfz80_1 := blk_frozen BK214.out 1
               have hfz80_2 := blk_frozen BK214.out 2
               obtain ⟨Ao81, co81, eo81⟩ := Kd.N_slice HO_215002.out
               subst eo81
               go_wp2_with (first | ((with_reducible refine gate_callee (f := 45) rfl ?_); refine goesL_ (some 120) rfl rfl Try.func45 (by kernel_rfl) rfl #[.slice A0 l0.length c0, .agg #[.int .i64 a1, .int .i64 ji30, .slice Ao81 x215002_3.length co81]] rfl (by (try simp only [List.map_toArray, List.map_cons, List.map_nil]); first | done | (simp only [hji30]; rfl) | rfl | (simp only [List.length_drop, List.length_take]; rfl)) ?_; (with_reducible refine (musterref09_with.calls kj72 (fun k_ => ((P0_ k_ ∨ w.heap.size ≤ k_) ∧ (some k_ ≠ (.slice Ao81 x215002_3.length co81 : Value).ownBlock ∧ k_ ≠ gb214))) _ _ l0 a1 ji30 (fun k_ => ((P0_ k_ ∨ w.heap.size ≤ k_) ∧ k_ ≠ gb214)) _ _ x215002_3 t224 _ ?side1 ?side2 A79.out).mono ?_); (case side1 => exact HO_0.out); (case side2 => exact Kd.N_V (HO_215002.out)); rintro e w82 ⟨v225, rfl, ho0, hb⟩; refine ⟨_, rfl, ?_⟩; have n0_ := Aside0.mk (Kd.V_elder' (by (with_reducible repeat (first | apply Kd.V_alloc | apply Kd.V_drewN | apply Kd.V_drew)); exact HO_0.out) (Kd.N_base ho0) hb); have n1_ := Aside0.mk (Kd.V_elder' (by (with_reducible repeat (first | apply Kd.V_alloc | apply Kd.V_drewN | apply Kd.V_drew)); exact HO_15.out) (Kd.N_base ho0) hb); have n2_ := Aside0.mk (Kd.N_elder' (by (with_reducible repeat (first | apply Kd.N_alloc | apply Kd.N_drewN | apply Kd.N_drew)); exact HO_215002.out) (Kd.N_base ho0) hb); have n3_ := Aside0.mk (Kd.N_lower (Kd.N_mono (ok' := fun k_ => (P0_ k_ ∨ w.heap.size ≤ k_) ∧ k_ ≠ gb214) ho0 (fun k_ hk_ => ⟨Or.elim hk_ (fun hs_ => Or.elim hs_ (fun hs_ => hs_.1) (fun hs_ => hs_.1)) (fun hn_ => (.inr (Nat.le_trans (below_size (by repeat (first | (with_reducible first | exact HB.out | apply below_alloc | apply pw_below_drewN | apply below_drew1 | refine below_set ?_ GE214.out) | exact HB.out))) hn_))), Or.elim hk_ (fun hs_ => Or.elim hs_ (fun hs_ => hs_.2.2) (fun hs_ => hs_.2)) (fun hn_ => (Kd.freshB (g := gb214) (o := .cells #[.int .i64 a1, .int .i64 ji30, .slice Ao81 x215002_3.length co81] 44 (0, 0)) (by (with_reducible repeat (first | refine blk_drewN ?_ _ | refine blk_drew ?_ | refine blk_alloc ?_ _)); exact BK214.out) k_ hn_))⟩)) (below_size (by repeat (first | (with_reducible first | exact HB.out | apply below_alloc | apply pw_below_drewN | apply below_drew1 | refine below_set ?_ GE214.out) | exact HB.out)))); have n4_ := Aside0.mk (blk_below (g := gb214) (o := .cells #[.int .i64 a1, .int .i64 ji30, .slice Ao81 x215002_3.length co81] 44 (0, 0)) (by (with_reducible repeat (first | refine blk_drewN ?_ _ | refine blk_drew ?_ | refine blk_alloc ?_ _)); exact BK214.out) hb); have n5_ := Aside0.mk (below_step (by repeat (first | (with_reducible first | exact HB.out | apply below_alloc | apply pw_below_drewN | apply below_drew1 | refine below_set ?_ GE214.out) | exact HB.out)) hb); clear HO_0; clear HO_15; clear HO_215002; clear BK214; clear HB; have HO_0 := n0_; have HO_15 := n1_; have HO_215002 := n2_; have HO226 := n3_; have BK214 := n4_; have HB := n5_; clear n0_ n1_ n2_ n3_ n4_ n5_; (try clear hb); (try clear hb2); (try clear hk); (try clear hi); (try clear ho0)))
               refine bodyPost_ret (results_list (rs := [.tmp 8, .tmp 9, .tmp 10, .tmp 11]) rfl (by simp) (.tmp (.tmp (.tmp (.tmp .nil))))) rfl ?_
               exact ⟨_, _, by first | rfl | (simp [errW_none, errW_some] <;> rfl) | (simp only [← hji30]; first | rfl | (simp [errW_none, errW_some] <;> rfl)) | (simp [*, errW_none, errW_some] <;> rfl), by (with_reducible repeat (first | apply Kd.N_alloc | apply Kd.N_drewN | apply Kd.N_drew)); exact Kd.N_mono HO226.out (fun _ hk => hk.1), Kd.V_nil _ _ _ _ _, by repeat (first | (with_reducible first | exact HB.out | apply below_alloc | apply pw_below_drewN | apply below_drew1 | refine below_set ?_ GE214.out) | exact HB.out)⟩
              ·rw [if_neg c78] at H
               have c78b0 : decide (a2 ≤ ji30) = false := decide_eq_false c78
               clear c78
               replace H := Option.bind_eq_some_iff.mp H
               obtain ⟨t227, A830, H⟩ := H
               replace H : (some (t227, 4, x15_3, 0)) = some (r1, r2, r3, r4) := H
               have A83 := Aside0.mk A830
               clear A830
               simp only [Option.some.injEq, Prod.mk.injEq] at H
               obtain ⟨rfl, rfl, rfl, rfl⟩ := H
               have hcz84_0 : wc.cell? ⟨gb214, 0, none⟩ = some (.int .i64 a1) := (blk_cell BK214.out 0).trans rfl
               have hcz84_1 : wc.cell? ⟨gb214, 1, none⟩ = some (.int .i64 ji30) := (blk_cell BK214.out 1).trans rfl
               have hcz84_2 : wc.cell? ⟨gb214, 2, none⟩ = some (u215002) := (blk_cell BK214.out 2).trans rfl
               have hfz84_0 := blk_frozen BK214.out 0
               have hfz84_1 := blk_frozen BK214.out 1
               have hfz84_2 := blk_frozen BK214.out 2
               obtain ⟨Ao85, co85, eo85⟩ := Kd.N_slice HO_215002.out
               subst eo85
               go_wp2_with (first | ((with_reducible refine gate_callee (f := 45) rfl ?_); refine goesL_ (some 120) rfl rfl Try.func45 (by kernel_rfl) rfl #[.slice A0 l0.length c0, .agg #[.int .i64 a1, .int .i64 ji30, .slice Ao85 x215002_3.length co85]] rfl (by (try simp only [List.map_toArray, List.map_cons, List.map_nil]); first | done | (simp only [hji30]; rfl) | rfl | (simp only [List.length_drop, List.length_take]; rfl)) ?_; (with_reducible refine (musterref09_with.calls kj72 (fun k_ => ((P0_ k_ ∨ w.heap.size ≤ k_) ∧ (some k_ ≠ (.slice Ao85 x215002_3.length co85 : Value).ownBlock ∧ k_ ≠ gb214))) _ _ l0 a1 ji30 (fun k_ => ((P0_ k_ ∨ w.heap.size ≤ k_) ∧ k_ ≠ gb214)) _ _ x215002_3 t227 _ ?side1 ?side2 A83.out).mono ?_); (case side1 => exact HO_0.out); (case side2 => exact Kd.N_V (HO_215002.out)); rintro e w86 ⟨v228, rfl, ho0, hb⟩; refine ⟨_, rfl, ?_⟩; have n0_ := Aside0.mk (Kd.V_elder' (by (with_reducible repeat (first | apply Kd.V_alloc | apply Kd.V_drewN | apply Kd.V_drew)); exact HO_0.out) (Kd.N_base ho0) hb); have n1_ := Aside0.mk (Kd.V_elder' (by (with_reducible repeat (first | apply Kd.V_alloc | apply Kd.V_drewN | apply Kd.V_drew)); exact HO_15.out) (Kd.N_base ho0) hb); have n2_ := Aside0.mk (Kd.N_elder' (by (with_reducible repeat (first | apply Kd.N_alloc | apply Kd.N_drewN | apply Kd.N_drew)); exact HO_215002.out) (Kd.N_base ho0) hb); have n3_ := Aside0.mk (Kd.N_lower (Kd.N_mono (ok' := fun k_ => (P0_ k_ ∨ w.heap.size ≤ k_) ∧ k_ ≠ gb214) ho0 (fun k_ hk_ => ⟨Or.elim hk_ (fun hs_ => Or.elim hs_ (fun hs_ => hs_.1) (fun hs_ => hs_.1)) (fun hn_ => (.inr (Nat.le_trans (below_size (by repeat (first | (with_reducible first | exact HB.out | apply below_alloc | apply pw_below_drewN | apply below_drew1 | refine below_set ?_ GE214.out) | exact HB.out))) hn_))), Or.elim hk_ (fun hs_ => Or.elim hs_ (fun hs_ => hs_.2.2) (fun hs_ => hs_.2)) (fun hn_ => (Kd.freshB (g := gb214) (o := .cells #[.int .i64 a1, .int .i64 ji30, .slice Ao85 x215002_3.length co85] 44 (0, 0)) (by (with_reducible repeat (first | refine blk_drewN ?_ _ | refine blk_drew ?_ | refine blk_alloc ?_ _)); exact BK214.out) k_ hn_))⟩)) (below_size (by repeat (first | (with_reducible first | exact HB.out | apply below_alloc | apply pw_below_drewN | apply below_drew1 | refine below_set ?_ GE214.out) | exact HB.out)))); have n4_ := Aside0.mk (blk_below (g := gb214) (o := .cells #[.int .i64 a1, .int .i64 ji30, .slice Ao85 x215002_3.length co85] 44 (0, 0)) (by (with_reducible repeat (first | refine blk_drewN ?_ _ | refine blk_drew ?_ | refine blk_alloc ?_ _)); exact BK214.out) hb); have n5_ := Aside0.mk (below_step (by repeat (first | (with_reducible first | exact HB.out | apply below_alloc | apply pw_below_drewN | apply below_drew1 | refine below_set ?_ GE214.out) | exact HB.out)) hb); clear HO_0; clear HO_15; clear HO_215002; clear BK214; clear HB; have HO_0 := n0_; have HO_15 := n1_; have HO_215002 := n2_; have HO229 := n3_; have BK214 := n4_; have HB := n5_; clear n0_ n1_ n2_ n3_ n4_ n5_; (try clear hb); (try clear hb2); (try clear hk); (try clear hi); (try clear ho0)))
               refine bodyPost_ret (results_list (rs := [.tmp 8, .tmp 9, .tmp 10, .tmp 11]) rfl (by simp) (.tmp (.tmp (.tmp (.tmp .nil))))) rfl ?_
               exact ⟨_, _, by first | rfl | (simp [errW_none, errW_some] <;> rfl) | (simp only [← hji30]; first | rfl | (simp [errW_none, errW_some] <;> rfl)) | (simp [*, errW_none, errW_some] <;> rfl), by (with_reducible repeat (first | apply Kd.N_alloc | apply Kd.N_drewN | apply Kd.N_drew)); exact Kd.N_mono HO229.out (fun _ hk => hk.1), by (with_reducible repeat (first | apply Kd.V_alloc | apply Kd.V_drewN | apply Kd.V_drew)); exact Kd.V_mono HO_15.out (fun _ hk => ⟨hk.1.1, hk.2⟩), by repeat (first | (with_reducible first | exact HB.out | apply below_alloc | apply pw_below_drewN | apply below_drew1 | refine below_set ?_ GE214.out) | exact HB.out)⟩
             ·replace c77 := Bool.eq_false_iff.mpr c77
              subst c77
              have H1 : (if a2 ≤ ji30 then ((musterref09_with.f kj72 l0 a1 ji30 x215002_3).bind fun t230 => (some (t230, 3, ([] : List Int), 0))) else ((musterref09_with.f kj72 l0 a1 ji30 x215002_3).bind fun t233 => (some (t233, x14_3, x15_3, 0)))) = some (r1, r2, r3, r4) := by rw [if_neg (show ¬ (false = true) by decide)] at H; exact H
              clear H
              have H := H1
              clear H1
              by_cases c87 : a2 ≤ ji30
              ·rw [if_pos c87] at H
               have c87b0 : decide (a2 ≤ ji30) = true := decide_eq_true c87
               clear c87
               replace H := Option.bind_eq_some_iff.mp H
               obtain ⟨t230, A880, H⟩ := H
               replace H : (some (t230, 3, ([] : List Int), 0)) = some (r1, r2, r3, r4) := H
               have A88 := Aside0.mk A880
               clear A880
               simp only [Option.some.injEq, Prod.mk.injEq] at H
               obtain ⟨rfl, rfl, rfl, rfl⟩ := H
               have hcz89_0 : wc.cell? ⟨gb214, 0, none⟩ = some (.int .i64 a1) := (blk_cell BK214.out 0).trans rfl
               have hcz89_1 : wc.cell? ⟨gb214, 1, none⟩ = some (.int .i64 ji30) := (blk_cell BK214.out 1).trans rfl
               have hcz89_2 : wc.cell? ⟨gb214, 2, none⟩ = some (u215002) := (blk_cell BK214.out 2).trans rfl
               have hfz89_0 := blk_frozen BK214.out 0
               have hfz89_1 := blk_frozen BK214.out 1
               have hfz89_2 := blk_frozen BK214.out 2
               obtain ⟨Ao90, co90, eo90⟩ := Kd.N_slice HO_215002.out
               subst eo90
               go_wp2_with (first | ((with_reducible refine gate_callee (f := 45) rfl ?_); refine goesL_ (some 120) rfl rfl Try.func45 (by kernel_rfl) rfl #[.slice A0 l0.length c0, .agg #[.int .i64 a1, .int .i64 ji30, .slice Ao90 x215002_3.length co90]] rfl (by (try simp only [List.map_toArray, List.map_cons, List.map_nil]); first | done | (simp only [hji30]; rfl) | rfl | (simp only [List.length_drop, List.length_take]; rfl)) ?_; (with_reducible refine (musterref09_with.calls kj72 (fun k_ => ((P0_ k_ ∨ w.heap.size ≤ k_) ∧ (some k_ ≠ (.slice Ao90 x215002_3.length co90 : Value).ownBlock ∧ k_ ≠ gb214))) _ _ l0 a1 ji30 (fun k_ => ((P0_ k_ ∨ w.heap.size ≤ k_) ∧ k_ ≠ gb214)) _ _ x215002_3 t230 _ ?side1 ?side2 A88.out).mono ?_); (case side1 => exact HO_0.out); (case side2 => exact Kd.N_V (HO_215002.out)); rintro e w91 ⟨v231, rfl, ho0, hb⟩; refine ⟨_, rfl, ?_⟩; have n0_ := Aside0.mk (Kd.V_elder' (by (with_reducible repeat (first | apply Kd.V_alloc | apply Kd.V_drewN | apply Kd.V_drew)); exact HO_0.out) (Kd.N_base ho0) hb); have n1_ := Aside0.mk (Kd.V_elder' (by (with_reducible repeat (first | apply Kd.V_alloc | apply Kd.V_drewN | apply Kd.V_drew)); exact HO_15.out) (Kd.N_base ho0) hb); have n2_ := Aside0.mk (Kd.N_elder' (by (with_reducible repeat (first | apply Kd.N_alloc | apply Kd.N_drewN | apply Kd.N_drew)); exact HO_215002.out) (Kd.N_base ho0) hb); have n3_ := Aside0.mk (Kd.N_lower (Kd.N_mono (ok' := fun k_ => (P0_ k_ ∨ w.heap.size ≤ k_) ∧ k_ ≠ gb214) ho0 (fun k_ hk_ => ⟨Or.elim hk_ (fun hs_ => Or.elim hs_ (fun hs_ => hs_.1) (fun hs_ => hs_.1)) (fun hn_ => (.inr (Nat.le_trans (below_size (by repeat (first | (with_reducible first | exact HB.out | apply below_alloc | apply pw_below_drewN | apply below_drew1 | refine below_set ?_ GE214.out) | exact HB.out))) hn_))), Or.elim hk_ (fun hs_ => Or.elim hs_ (fun hs_ => hs_.2.2) (fun hs_ => hs_.2)) (fun hn_ => (Kd.freshB (g := gb214) (o := .cells #[.int .i64 a1, .int .i64 ji30, .slice Ao90 x215002_3.length co90] 44 (0, 0)) (by (with_reducible repeat (first | refine blk_drewN ?_ _ | refine blk_drew ?_ | refine blk_alloc ?_ _)); exact BK214.out) k_ hn_))⟩)) (below_size (by repeat (first | (with_reducible first | exact HB.out | apply below_alloc | apply pw_below_drewN | apply below_drew1 | refine below_set ?_ GE214.out) | exact HB.out)))); have n4_ := Aside0.mk (blk_below (g := gb214) (o := .cells #[.int .i64 a1, .int .i64 ji30, .slice Ao90 x215002_3.length co90] 44 (0, 0)) (by (with_reducible repeat (first | refine blk_drewN ?_ _ | refine blk_drew ?_ | refine blk_alloc ?_ _)); exact BK214.out) hb); have n5_ := Aside0.mk (below_step (by repeat (first | (with_reducible first | exact HB.out | apply below_alloc | apply pw_below_drewN | apply below_drew1 | refine below_set ?_ GE214.out) | exact HB.out)) hb); clear HO_0; clear HO_15; clear HO_215002; clear BK214; clear HB; have HO_0 := n0_; have HO_15 := n1_; have HO_215002 := n2_; have HO232 := n3_; have BK214 := n4_; have HB := n5_; clear n0_ n1_ n2_ n3_ n4_ n5_; (try clear hb); (try clear hb2); (try clear hk); (try clear hi); (try clear ho0)))
               refine bodyPost_ret (results_list (rs := [.tmp 8, .tmp 9, .tmp 10, .tmp 11]) rfl (by simp) (.tmp (.tmp (.tmp (.tmp .nil))))) rfl ?_
               exact ⟨_, _, by first | rfl | (simp [errW_none, errW_some] <;> rfl) | (simp only [← hji30]; first | rfl | (simp [errW_none, errW_some] <;> rfl)) | (simp [*, errW_none, errW_some] <;> rfl), by (with_reducible repeat (first | apply Kd.N_alloc | apply Kd.N_drewN | apply Kd.N_drew)); exact Kd.N_mono HO232.out (fun _ hk => hk.1), Kd.V_nil _ _ _ _ _, by repeat (first | (with_reducible first | exact HB.out | apply below_alloc | apply pw_below_drewN | apply below_drew1 | refine below_set ?_ GE214.out) | exact HB.out)⟩
              ·rw [if_neg c87] at H
               have c87b0 : decide (a2 ≤ ji30) = false := decide_eq_false c87
               clear c87
               replace H := Option.bind_eq_some_iff.mp H
               obtain ⟨t233, A920, H⟩ := H
               replace H : (some (t233, x14_3, x15_3, 0)) = some (r1, r2, r3, r4) := H
               have A92 := Aside0.mk A920
               clear A920
               simp only [Option.some.injEq, Prod.mk.injEq] at H
               obtain ⟨rfl, rfl, rfl, rfl⟩ := H
               have hcz93_0 : wc.cell? ⟨gb214, 0, none⟩ = some (.int .i64 a1) := (blk_cell BK214.out 0).trans rfl
               have hcz93_1 : wc.cell? ⟨gb214, 1, none⟩ = some (.int .i64 ji30) := (blk_cell BK214.out 1).trans rfl
               have hcz93_2 : wc.cell? ⟨gb214, 2, none⟩ = some (u215002) := (blk_cell BK214.out 2).trans rfl
               have hfz93_0 := blk_frozen BK214.out 0
               have hfz93_1 := blk_frozen BK214.out 1
               have hfz93_2 := blk_frozen BK214.out 2
               obtain ⟨Ao94, co94, eo94⟩ := Kd.N_slice HO_215002.out
               subst eo94
               go_wp2_with (first | ((with_reducible refine gate_callee (f := 45) rfl ?_); refine goesL_ (some 120) rfl rfl Try.func45 (by kernel_rfl) rfl #[.slice A0 l0.length c0, .agg #[.int .i64 a1, .int .i64 ji30, .slice Ao94 x215002_3.length co94]] rfl (by (try simp only [List.map_toArray, List.map_cons, List.map_nil]); first | done | (simp only [hji30]; rfl) | rfl | (simp only [List.length_drop, List.length_take]; rfl)) ?_; (with_reducible refine (musterref09_with.calls kj72 (fun k_ => ((P0_ k_ ∨ w.heap.size ≤ k_) ∧ (some k_ ≠ (.slice Ao94 x215002_3.length co94 : Value).ownBlock ∧ k_ ≠ gb214))) _ _ l0 a1 ji30 (fun k_ => ((P0_ k_ ∨ w.heap.size ≤ k_) ∧ k_ ≠ gb214)) _ _ x215002_3 t233 _ ?side1 ?side2 A92.out).mono ?_); (case side1 => exact HO_0.out); (case side2 => exact Kd.N_V (HO_215002.out)); rintro e w95 ⟨v234, rfl, ho0, hb⟩; refine ⟨_, rfl, ?_⟩; have n0_ := Aside0.mk (Kd.V_elder' (by (with_reducible repeat (first | apply Kd.V_alloc | apply Kd.V_drewN | apply Kd.V_drew)); exact HO_0.out) (Kd.N_base ho0) hb); have n1_ := Aside0.mk (Kd.V_elder' (by (with_reducible repeat (first | apply Kd.V_alloc | apply Kd.V_drewN | apply Kd.V_drew)); exact HO_15.out) (Kd.N_base ho0) hb); have n2_ := Aside0.mk (Kd.N_elder' (by (with_reducible repeat (first | apply Kd.N_alloc | apply Kd.N_drewN | apply Kd.N_drew)); exact HO_215002.out) (Kd.N_base ho0) hb); have n3_ := Aside0.mk (Kd.N_lower (Kd.N_mono (ok' := fun k_ => (P0_ k_ ∨ w.heap.size ≤ k_) ∧ k_ ≠ gb214) ho0 (fun k_ hk_ => ⟨Or.elim hk_ (fun hs_ => Or.elim hs_ (fun hs_ => hs_.1) (fun hs_ => hs_.1)) (fun hn_ => (.inr (Nat.le_trans (below_size (by repeat (first | (with_reducible first | exact HB.out | apply below_alloc | apply pw_below_drewN | apply below_drew1 | refine below_set ?_ GE214.out) | exact HB.out))) hn_))), Or.elim hk_ (fun hs_ => Or.elim hs_ (fun hs_ => hs_.2.2) (fun hs_ => hs_.2)) (fun hn_ => (Kd.freshB (g := gb214) (o := .cells #[.int .i64 a1, .int .i64 ji30, .slice Ao94 x215002_3.length co94] 44 (0, 0)) (by (with_reducible repeat (first | refine blk_drewN ?_ _ | refine blk_drew ?_ | refine blk_alloc ?_ _)); exact BK214.out) k_ hn_))⟩)) (below_size (by repeat (first | (with_reducible first | exact HB.out | apply below_alloc | apply pw_below_drewN | apply below_drew1 | refine below_set ?_ GE214.out) | exact HB.out)))); have n4_ := Aside0.mk (blk_below (g := gb214) (o := .cells #[.int .i64 a1, .int .i64 ji30, .slice Ao94 x215002_3.length co94] 44 (0, 0)) (by (with_reducible repeat (first | refine blk_drewN ?_ _ | refine blk_drew ?_ | refine blk_alloc ?_ _)); exact BK214.out) hb); have n5_ := Aside0.mk (below_step (by repeat (first | (with_reducible first | exact HB.out | apply below_alloc | apply pw_below_drewN | apply below_drew1 | refine below_set ?_ GE214.out) | exact HB.out)) hb); clear HO_0; clear HO_15; clear HO_215002; clear BK214; clear HB; have HO_0 := n0_; have HO_15 := n1_; have HO_215002 := n2_; have HO235 := n3_; have BK214 := n4_; have HB := n5_; clear n0_ n1_ n2_ n3_ n4_ n5_; (try clear hb); (try clear hb2); (try clear hk); (try clear hi); (try clear ho0)))
               refine bodyPost_ret (results_list (rs := [.tmp 8, .tmp 9, .tmp 10, .tmp 11]) rfl (by simp) (.tmp (.tmp (.tmp (.tmp .nil))))) rfl ?_
               exact ⟨_, _, by first | rfl | (simp [errW_none, errW_some] <;> rfl) | (simp only [← hji30]; first | rfl | (simp [errW_none, errW_some] <;> rfl)) | (simp [*, errW_none, errW_some] <;> rfl), by (with_reducible repeat (first | apply Kd.N_alloc | apply Kd.N_drewN | apply Kd.N_drew)); exact Kd.N_mono HO235.out (fun _ hk => hk.1), by (with_reducible repeat (first | apply Kd.V_alloc | apply Kd.V_drewN | apply Kd.V_drew)); exact Kd.V_mono HO_15.out (fun _ hk => ⟨hk.1.1, hk.2⟩), by repeat (first | (with_reducible first | exact HB.out | apply below_alloc | apply pw_below_drewN | apply below_drew1 | refine below_set ?_ GE214.out) | exact HB.out)⟩

end Go.Proofs.Ytafnjlgdjhegaaa.Pr
