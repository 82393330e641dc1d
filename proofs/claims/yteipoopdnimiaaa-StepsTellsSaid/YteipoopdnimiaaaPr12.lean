-- Written by this session's program wip/tools/pr.py out of the translation (with the kit's print.py). Not trusted: Lean checks it.
import Derived.Test.YteipoopdnimiaaaPr0
import Derived.Test.YteipoopdnimiaaaPr2
import Derived.Test.YteipoopdnimiaaaPr3
import Derived.Test.YteipoopdnimiaaaPr6
import Derived.Test.YteipoopdnimiaaaPr7
import Derived.Test.YteipoopdnimiaaaPr8
import Derived.Test.YteipoopdnimiaaaPr9
import Derived.Test.YteipoopdnimiaaaPr10
import Derived.Test.YteipoopdnimiaaaPr11
namespace Go.Proofs.Yteipoopdnimiaaa.Pr
open Go.RowKit Go.Proofs.YteipoopdnimiaaaW.PrintWords Go.Proofs.YteipoopdnimiaaaW.PrintLast Go.Proofs.YteipoopdnimiaaaW.PrintMore
attribute [local go_sem] max2_int min2_int max_two min_two max_three min_three max_four min_four   -- for this text's walks alone
set_option linter.unusedVariables false
set_option linter.unusedSimpArgs false

/-! ### musterlaw11_StepsTells: function 5 -/
mutual
def musterlaw11_StepsTells.j0 : Nat → List (S34) → List (S34) → List (S34) → Bool → Option (Bool)
  | 0, _, _, _, _ => none
  | k + 1, x0, x5, x18, x137 => if x137 = true then (some false) else (musterlaw11_StepsTells.l0 k x0 x5 x18 0)
def musterlaw11_StepsTells.l0 : Nat → List (S34) → List (S34) → List (S34) → Int → Option (Bool)
  | 0, _, _, _, _ => none
  | k + 1, x0, x5, x18, x22 => if x22 < (x18.length : Int) then (if 0 ≤ x22 then (musterlaw11_StepsTells.l0 k x0 x5 (x18.set (x22 : Int).toNat (⟨(rd_T34 x18 x22).f0, 77⟩ : S34)) (wrap64 (x22 + 1))) else (none)) else ((musterkit_SameCuts.f k x5 x0).bind fun t243 => (if t243 = true then ((musterlaw11_awake.f k).bind fun t244 => (some t244)) else (some false)))
end
def musterlaw11_StepsTells.f (k : Nat) (l0 : List (S34)) (a1_0 : Int) (a1_1 : Int) (a1_2 : Int) : Option (Bool) := (musterkit_CopyCuts.f k l0).bind fun t211 => ((steps_Flat.f a1_2).bind fun bt214 => ((musterref11_Flat.f a1_2).bind fun bt218 => ((steps_At.f k t211 a1_0).bind fun bt222 => ((musterref11_At.f k l0 a1_0).bind fun bt224 => ((steps_Least.f k t211 a1_0 a1_1).bind fun bt226 => ((musterref11_Least.f k l0 a1_0 a1_1).bind fun bt228 => ((steps_Add.f k t211 a1_0 a1_1 a1_2).bind fun bt230 => ((musterref11_Add.f k l0 a1_0 a1_1 a1_2).bind fun bt234 => ((musterkit_SameCuts.f k bt214.1 bt218.1).bind fun t238 => (if t238 = true then (if bt214.2 = bt218.2 then (if bt222.1 = bt224.1 then (if bt222.2 = bt224.2 then (if bt226.1 = bt228.1 then (if bt226.2 = bt228.2 then ((musterkit_SameCuts.f k bt230.1 bt234.1).bind fun t239 => (if t239 = true then (if bt230.2 = bt234.2 then ((steps_Right.f k t211).bind fun t240 => ((musterref11_Right.f k l0).bind fun t241 => (musterlaw11_StepsTells.j0 k l0 t211 bt230.1 (t240 != t241)))) else (musterlaw11_StepsTells.j0 k l0 t211 bt230.1 true)) else (musterlaw11_StepsTells.j0 k l0 t211 bt230.1 true))) else (musterlaw11_StepsTells.j0 k l0 t211 bt230.1 true)) else (musterlaw11_StepsTells.j0 k l0 t211 bt230.1 true)) else (musterlaw11_StepsTells.j0 k l0 t211 bt230.1 true)) else (musterlaw11_StepsTells.j0 k l0 t211 bt230.1 true)) else (musterlaw11_StepsTells.j0 k l0 t211 bt230.1 true)) else (musterlaw11_StepsTells.j0 k l0 t211 bt230.1 true)))))))))))
theorem musterlaw11_StepsTells.mono_l : ∀ k, (∀ y0 y1 y2 y3, LeO (musterlaw11_StepsTells.j0 k y0 y1 y2 y3) (musterlaw11_StepsTells.j0 (k + 1) y0 y1 y2 y3)) ∧ (∀ y0 y1 y2 y3, LeO (musterlaw11_StepsTells.l0 k y0 y1 y2 y3) (musterlaw11_StepsTells.l0 (k + 1) y0 y1 y2 y3))
  | 0 => ⟨fun _ _ _ _ r h => by simp [musterlaw11_StepsTells.j0] at h, fun _ _ _ _ r h => by simp [musterlaw11_StepsTells.l0] at h⟩
  | k + 1 => by
    obtain ⟨ih0, ih1⟩ := musterlaw11_StepsTells.mono_l k
    refine ⟨?_, ?_⟩
    · intro y0 y1 y2 y3
      unfold musterlaw11_StepsTells.j0
      repeat' first
      | (with_reducible exact ih0 _ _ _ _)
      | (with_reducible exact ih1 _ _ _ _)
      | (with_reducible exact musterkit_CopyCuts.mono _ _)
      | (with_reducible exact musterkit_SameCuts.mono _ _ _)
      | (with_reducible exact musterlaw11_awake.mono _)
      | (with_reducible exact musterref11_Add.mono _ _ _ _ _)
      | (with_reducible exact musterref11_At.mono _ _ _)
      | (with_reducible exact musterref11_Least.mono _ _ _ _)
      | (with_reducible exact musterref11_Right.mono _ _)
      | (with_reducible exact steps_Add.mono _ _ _ _ _)
      | (with_reducible exact steps_At.mono _ _ _)
      | (with_reducible exact steps_Least.mono _ _ _ _)
      | (with_reducible exact steps_Right.mono _ _)
      | (with_reducible exact LeO.refl _)
      | (with_reducible exact LeO.none _)
      | (with_reducible refine LeO.ite ?_ ?_)
      | (with_reducible refine LeO.bind ?_ (fun _ => ?_))
      | exact ih0 _ _ _ _
      | exact ih1 _ _ _ _
      | exact musterkit_CopyCuts.mono _ _
      | exact musterkit_SameCuts.mono _ _ _
      | exact musterlaw11_awake.mono _
      | exact musterref11_Add.mono _ _ _ _ _
      | exact musterref11_At.mono _ _ _
      | exact musterref11_Least.mono _ _ _ _
      | exact musterref11_Right.mono _ _
      | exact steps_Add.mono _ _ _ _ _
      | exact steps_At.mono _ _ _
      | exact steps_Least.mono _ _ _ _
      | exact steps_Right.mono _ _
      | exact LeO.none _
      | refine LeO.ite ?_ ?_
      | refine LeO.bind ?_ (fun _ => ?_)
    · intro y0 y1 y2 y3
      unfold musterlaw11_StepsTells.l0
      repeat' first
      | (with_reducible exact ih0 _ _ _ _)
      | (with_reducible exact ih1 _ _ _ _)
      | (with_reducible exact musterkit_CopyCuts.mono _ _)
      | (with_reducible exact musterkit_SameCuts.mono _ _ _)
      | (with_reducible exact musterlaw11_awake.mono _)
      | (with_reducible exact musterref11_Add.mono _ _ _ _ _)
      | (with_reducible exact musterref11_At.mono _ _ _)
      | (with_reducible exact musterref11_Least.mono _ _ _ _)
      | (with_reducible exact musterref11_Right.mono _ _)
      | (with_reducible exact steps_Add.mono _ _ _ _ _)
      | (with_reducible exact steps_At.mono _ _ _)
      | (with_reducible exact steps_Least.mono _ _ _ _)
      | (with_reducible exact steps_Right.mono _ _)
      | (with_reducible exact LeO.refl _)
      | (with_reducible exact LeO.none _)
      | (with_reducible refine LeO.ite ?_ ?_)
      | (with_reducible refine LeO.bind ?_ (fun _ => ?_))
      | exact ih0 _ _ _ _
      | exact ih1 _ _ _ _
      | exact musterkit_CopyCuts.mono _ _
      | exact musterkit_SameCuts.mono _ _ _
      | exact musterlaw11_awake.mono _
      | exact musterref11_Add.mono _ _ _ _ _
      | exact musterref11_At.mono _ _ _
      | exact musterref11_Least.mono _ _ _ _
      | exact musterref11_Right.mono _ _
      | exact steps_Add.mono _ _ _ _ _
      | exact steps_At.mono _ _ _
      | exact steps_Least.mono _ _ _ _
      | exact steps_Right.mono _ _
      | exact LeO.none _
      | refine LeO.ite ?_ ?_
      | refine LeO.bind ?_ (fun _ => ?_)
theorem musterlaw11_StepsTells.mono : ∀ a0 a1 a2 a3 k, LeO (musterlaw11_StepsTells.f k a0 a1 a2 a3) (musterlaw11_StepsTells.f (k + 1) a0 a1 a2 a3) := by
  intro a0 a1 a2 a3 k
  obtain ⟨ih0, ih1⟩ := musterlaw11_StepsTells.mono_l k
  unfold musterlaw11_StepsTells.f
  repeat' first
      | (with_reducible exact ih0 _ _ _ _)
      | (with_reducible exact ih1 _ _ _ _)
      | (with_reducible exact musterkit_CopyCuts.mono _ _)
      | (with_reducible exact musterkit_SameCuts.mono _ _ _)
      | (with_reducible exact musterlaw11_awake.mono _)
      | (with_reducible exact musterref11_Add.mono _ _ _ _ _)
      | (with_reducible exact musterref11_At.mono _ _ _)
      | (with_reducible exact musterref11_Least.mono _ _ _ _)
      | (with_reducible exact musterref11_Right.mono _ _)
      | (with_reducible exact steps_Add.mono _ _ _ _ _)
      | (with_reducible exact steps_At.mono _ _ _)
      | (with_reducible exact steps_Least.mono _ _ _ _)
      | (with_reducible exact steps_Right.mono _ _)
      | (with_reducible exact LeO.refl _)
      | (with_reducible exact LeO.none _)
      | (with_reducible refine LeO.ite ?_ ?_)
      | (with_reducible refine LeO.bind ?_ (fun _ => ?_))
      | exact ih0 _ _ _ _
      | exact ih1 _ _ _ _
      | exact musterkit_CopyCuts.mono _ _
      | exact musterkit_SameCuts.mono _ _ _
      | exact musterlaw11_awake.mono _
      | exact musterref11_Add.mono _ _ _ _ _
      | exact musterref11_At.mono _ _ _
      | exact musterref11_Least.mono _ _ _ _
      | exact musterref11_Right.mono _ _
      | exact steps_Add.mono _ _ _ _ _
      | exact steps_At.mono _ _ _
      | exact steps_Least.mono _ _ _ _
      | exact steps_Right.mono _ _
      | exact LeO.none _
      | refine LeO.ite ?_ ?_
      | refine LeO.bind ?_ (fun _ => ?_)
set_option maxHeartbeats 8000000 in
set_option maxRecDepth 100000 in
theorem musterlaw11_StepsTells.calls (k : Nat) (A0 : Option Addr) (c0 : Nat) (l0 : List (S34)) (a1_0 : Int) (a1_1 : Int) (a1_2 : Int) (r : Bool) (w : World) (hr0 : Kd.C k34 w A0 l0.length l0) (hc0 : l0.length ≤ c0) (h : musterlaw11_StepsTells.f k l0 a1_0 a1_1 a1_2 = some r) :
    Calls Try.prog 5 #[.slice A0 l0.length c0, .agg #[.int .i64 a1_0, .int .i64 a1_1, .int .i64 a1_2]] w fun e w' => e = .returned (.bool r) ∧ Below w.heap.size w w' := by
  have hu24 := Try.underlying24
  have HR0 := Aside0.mk hr0
  have HC0 := Aside0.mk hc0
  clear hr0 hc0
  have HB := Aside0.mk (Below.refl w.heap.size w)
  have H : ((musterkit_CopyCuts.f k l0).bind fun t211 => ((steps_Flat.f a1_2).bind fun bt214 => ((musterref11_Flat.f a1_2).bind fun bt218 => ((steps_At.f k t211 a1_0).bind fun bt222 => ((musterref11_At.f k l0 a1_0).bind fun bt224 => ((steps_Least.f k t211 a1_0 a1_1).bind fun bt226 => ((musterref11_Least.f k l0 a1_0 a1_1).bind fun bt228 => ((steps_Add.f k t211 a1_0 a1_1 a1_2).bind fun bt230 => ((musterref11_Add.f k l0 a1_0 a1_1 a1_2).bind fun bt234 => ((musterkit_SameCuts.f k bt214.1 bt218.1).bind fun t238 => (if t238 = true then (if bt214.2 = bt218.2 then (if bt222.1 = bt224.1 then (if bt222.2 = bt224.2 then (if bt226.1 = bt228.1 then (if bt226.2 = bt228.2 then ((musterkit_SameCuts.f k bt230.1 bt234.1).bind fun t239 => (if t239 = true then (if bt230.2 = bt234.2 then ((steps_Right.f k t211).bind fun t240 => ((musterref11_Right.f k l0).bind fun t241 => (musterlaw11_StepsTells.j0 k l0 t211 bt230.1 (t240 != t241)))) else (musterlaw11_StepsTells.j0 k l0 t211 bt230.1 true)) else (musterlaw11_StepsTells.j0 k l0 t211 bt230.1 true))) else (musterlaw11_StepsTells.j0 k l0 t211 bt230.1 true)) else (musterlaw11_StepsTells.j0 k l0 t211 bt230.1 true)) else (musterlaw11_StepsTells.j0 k l0 t211 bt230.1 true)) else (musterlaw11_StepsTells.j0 k l0 t211 bt230.1 true)) else (musterlaw11_StepsTells.j0 k l0 t211 bt230.1 true)) else (musterlaw11_StepsTells.j0 k l0 t211 bt230.1 true)))))))))))) = some r := h
  clear h
  replace H := Option.bind_eq_some_iff.mp H
  obtain ⟨t211, A30, H⟩ := H
  replace H : ((steps_Flat.f a1_2).bind fun bt214 => ((musterref11_Flat.f a1_2).bind fun bt218 => ((steps_At.f k t211 a1_0).bind fun bt222 => ((musterref11_At.f k l0 a1_0).bind fun bt224 => ((steps_Least.f k t211 a1_0 a1_1).bind fun bt226 => ((musterref11_Least.f k l0 a1_0 a1_1).bind fun bt228 => ((steps_Add.f k t211 a1_0 a1_1 a1_2).bind fun bt230 => ((musterref11_Add.f k l0 a1_0 a1_1 a1_2).bind fun bt234 => ((musterkit_SameCuts.f k bt214.1 bt218.1).bind fun t238 => (if t238 = true then (if bt214.2 = bt218.2 then (if bt222.1 = bt224.1 then (if bt222.2 = bt224.2 then (if bt226.1 = bt228.1 then (if bt226.2 = bt228.2 then ((musterkit_SameCuts.f k bt230.1 bt234.1).bind fun t239 => (if t239 = true then (if bt230.2 = bt234.2 then ((steps_Right.f k t211).bind fun t240 => ((musterref11_Right.f k l0).bind fun t241 => (musterlaw11_StepsTells.j0 k l0 t211 bt230.1 (t240 != t241)))) else (musterlaw11_StepsTells.j0 k l0 t211 bt230.1 true)) else (musterlaw11_StepsTells.j0 k l0 t211 bt230.1 true))) else (musterlaw11_StepsTells.j0 k l0 t211 bt230.1 true)) else (musterlaw11_StepsTells.j0 k l0 t211 bt230.1 true)) else (musterlaw11_StepsTells.j0 k l0 t211 bt230.1 true)) else (musterlaw11_StepsTells.j0 k l0 t211 bt230.1 true)) else (musterlaw11_StepsTells.j0 k l0 t211 bt230.1 true)) else (musterlaw11_StepsTells.j0 k l0 t211 bt230.1 true))))))))))) = some r := H
  have A3 := Aside0.mk A30
  clear A30
  replace H := Option.bind_eq_some_iff.mp H
  obtain ⟨⟨t214, t215⟩, A40, H⟩ := H
  replace H : ((musterref11_Flat.f a1_2).bind fun bt218 => ((steps_At.f k t211 a1_0).bind fun bt222 => ((musterref11_At.f k l0 a1_0).bind fun bt224 => ((steps_Least.f k t211 a1_0 a1_1).bind fun bt226 => ((musterref11_Least.f k l0 a1_0 a1_1).bind fun bt228 => ((steps_Add.f k t211 a1_0 a1_1 a1_2).bind fun bt230 => ((musterref11_Add.f k l0 a1_0 a1_1 a1_2).bind fun bt234 => ((musterkit_SameCuts.f k t214 bt218.1).bind fun t238 => (if t238 = true then (if t215 = bt218.2 then (if bt222.1 = bt224.1 then (if bt222.2 = bt224.2 then (if bt226.1 = bt228.1 then (if bt226.2 = bt228.2 then ((musterkit_SameCuts.f k bt230.1 bt234.1).bind fun t239 => (if t239 = true then (if bt230.2 = bt234.2 then ((steps_Right.f k t211).bind fun t240 => ((musterref11_Right.f k l0).bind fun t241 => (musterlaw11_StepsTells.j0 k l0 t211 bt230.1 (t240 != t241)))) else (musterlaw11_StepsTells.j0 k l0 t211 bt230.1 true)) else (musterlaw11_StepsTells.j0 k l0 t211 bt230.1 true))) else (musterlaw11_StepsTells.j0 k l0 t211 bt230.1 true)) else (musterlaw11_StepsTells.j0 k l0 t211 bt230.1 true)) else (musterlaw11_StepsTells.j0 k l0 t211 bt230.1 true)) else (musterlaw11_StepsTells.j0 k l0 t211 bt230.1 true)) else (musterlaw11_StepsTells.j0 k l0 t211 bt230.1 true)) else (musterlaw11_StepsTells.j0 k l0 t211 bt230.1 true)))))))))) = some r := H
  have A4 := Aside0.mk A40
  clear A40
  replace H := Option.bind_eq_some_iff.mp H
  obtain ⟨⟨t218, t219⟩, A50, H⟩ := H
  replace H : ((steps_At.f k t211 a1_0).bind fun bt222 => ((musterref11_At.f k l0 a1_0).bind fun bt224 => ((steps_Least.f k t211 a1_0 a1_1).bind fun bt226 => ((musterref11_Least.f k l0 a1_0 a1_1).bind fun bt228 => ((steps_Add.f k t211 a1_0 a1_1 a1_2).bind fun bt230 => ((musterref11_Add.f k l0 a1_0 a1_1 a1_2).bind fun bt234 => ((musterkit_SameCuts.f k t214 t218).bind fun t238 => (if t238 = true then (if t215 = t219 then (if bt222.1 = bt224.1 then (if bt222.2 = bt224.2 then (if bt226.1 = bt228.1 then (if bt226.2 = bt228.2 then ((musterkit_SameCuts.f k bt230.1 bt234.1).bind fun t239 => (if t239 = true then (if bt230.2 = bt234.2 then ((steps_Right.f k t211).bind fun t240 => ((musterref11_Right.f k l0).bind fun t241 => (musterlaw11_StepsTells.j0 k l0 t211 bt230.1 (t240 != t241)))) else (musterlaw11_StepsTells.j0 k l0 t211 bt230.1 true)) else (musterlaw11_StepsTells.j0 k l0 t211 bt230.1 true))) else (musterlaw11_StepsTells.j0 k l0 t211 bt230.1 true)) else (musterlaw11_StepsTells.j0 k l0 t211 bt230.1 true)) else (musterlaw11_StepsTells.j0 k l0 t211 bt230.1 true)) else (musterlaw11_StepsTells.j0 k l0 t211 bt230.1 true)) else (musterlaw11_StepsTells.j0 k l0 t211 bt230.1 true)) else (musterlaw11_StepsTells.j0 k l0 t211 bt230.1 true))))))))) = some r := H
  have A5 := Aside0.mk A50
  clear A50
  replace H := Option.bind_eq_some_iff.mp H
  obtain ⟨⟨t222, t223⟩, A60, H⟩ := H
  replace H : ((musterref11_At.f k l0 a1_0).bind fun bt224 => ((steps_Least.f k t211 a1_0 a1_1).bind fun bt226 => ((musterref11_Least.f k l0 a1_0 a1_1).bind fun bt228 => ((steps_Add.f k t211 a1_0 a1_1 a1_2).bind fun bt230 => ((musterref11_Add.f k l0 a1_0 a1_1 a1_2).bind fun bt234 => ((musterkit_SameCuts.f k t214 t218).bind fun t238 => (if t238 = true then (if t215 = t219 then (if t222 = bt224.1 then (if t223 = bt224.2 then (if bt226.1 = bt228.1 then (if bt226.2 = bt228.2 then ((musterkit_SameCuts.f k bt230.1 bt234.1).bind fun t239 => (if t239 = true then (if bt230.2 = bt234.2 then ((steps_Right.f k t211).bind fun t240 => ((musterref11_Right.f k l0).bind fun t241 => (musterlaw11_StepsTells.j0 k l0 t211 bt230.1 (t240 != t241)))) else (musterlaw11_StepsTells.j0 k l0 t211 bt230.1 true)) else (musterlaw11_StepsTells.j0 k l0 t211 bt230.1 true))) else (musterlaw11_StepsTells.j0 k l0 t211 bt230.1 true)) else (musterlaw11_StepsTells.j0 k l0 t211 bt230.1 true)) else (musterlaw11_StepsTells.j0 k l0 t211 bt230.1 true)) else (musterlaw11_StepsTells.j0 k l0 t211 bt230.1 true)) else (musterlaw11_StepsTells.j0 k l0 t211 bt230.1 true)) else (musterlaw11_StepsTells.j0 k l0 t211 bt230.1 true)))))))) = some r := H
  have A6 := Aside0.mk A60
  clear A60
  replace H := Option.bind_eq_some_iff.mp H
  obtain ⟨⟨t224, t225⟩, A70, H⟩ := H
  replace H : ((steps_Least.f k t211 a1_0 a1_1).bind fun bt226 => ((musterref11_Least.f k l0 a1_0 a1_1).bind fun bt228 => ((steps_Add.f k t211 a1_0 a1_1 a1_2).bind fun bt230 => ((musterref11_Add.f k l0 a1_0 a1_1 a1_2).bind fun bt234 => ((musterkit_SameCuts.f k t214 t218).bind fun t238 => (if t238 = true then (if t215 = t219 then (if t222 = t224 then (if t223 = t225 then (if bt226.1 = bt228.1 then (if bt226.2 = bt228.2 then ((musterkit_SameCuts.f k bt230.1 bt234.1).bind fun t239 => (if t239 = true then (if bt230.2 = bt234.2 then ((steps_Right.f k t211).bind fun t240 => ((musterref11_Right.f k l0).bind fun t241 => (musterlaw11_StepsTells.j0 k l0 t211 bt230.1 (t240 != t241)))) else (musterlaw11_StepsTells.j0 k l0 t211 bt230.1 true)) else (musterlaw11_StepsTells.j0 k l0 t211 bt230.1 true))) else (musterlaw11_StepsTells.j0 k l0 t211 bt230.1 true)) else (musterlaw11_StepsTells.j0 k l0 t211 bt230.1 true)) else (musterlaw11_StepsTells.j0 k l0 t211 bt230.1 true)) else (musterlaw11_StepsTells.j0 k l0 t211 bt230.1 true)) else (musterlaw11_StepsTells.j0 k l0 t211 bt230.1 true)) else (musterlaw11_StepsTells.j0 k l0 t211 bt230.1 true))))))) = some r := H
  have A7 := Aside0.mk A70
  clear A70
  replace H := Option.bind_eq_some_iff.mp H
  obtain ⟨⟨t226, t227⟩, A80, H⟩ := H
  replace H : ((musterref11_Least.f k l0 a1_0 a1_1).bind fun bt228 => ((steps_Add.f k t211 a1_0 a1_1 a1_2).bind fun bt230 => ((musterref11_Add.f k l0 a1_0 a1_1 a1_2).bind fun bt234 => ((musterkit_SameCuts.f k t214 t218).bind fun t238 => (if t238 = true then (if t215 = t219 then (if t222 = t224 then (if t223 = t225 then (if t226 = bt228.1 then (if t227 = bt228.2 then ((musterkit_SameCuts.f k bt230.1 bt234.1).bind fun t239 => (if t239 = true then (if bt230.2 = bt234.2 then ((steps_Right.f k t211).bind fun t240 => ((musterref11_Right.f k l0).bind fun t241 => (musterlaw11_StepsTells.j0 k l0 t211 bt230.1 (t240 != t241)))) else (musterlaw11_StepsTells.j0 k l0 t211 bt230.1 true)) else (musterlaw11_StepsTells.j0 k l0 t211 bt230.1 true))) else (musterlaw11_StepsTells.j0 k l0 t211 bt230.1 true)) else (musterlaw11_StepsTells.j0 k l0 t211 bt230.1 true)) else (musterlaw11_StepsTells.j0 k l0 t211 bt230.1 true)) else (musterlaw11_StepsTells.j0 k l0 t211 bt230.1 true)) else (musterlaw11_StepsTells.j0 k l0 t211 bt230.1 true)) else (musterlaw11_StepsTells.j0 k l0 t211 bt230.1 true)))))) = some r := H
  have A8 := Aside0.mk A80
  clear A80
  replace H := Option.bind_eq_some_iff.mp H
  obtain ⟨⟨t228, t229⟩, A90, H⟩ := H
  replace H : ((steps_Add.f k t211 a1_0 a1_1 a1_2).bind fun bt230 => ((musterref11_Add.f k l0 a1_0 a1_1 a1_2).bind fun bt234 => ((musterkit_SameCuts.f k t214 t218).bind fun t238 => (if t238 = true then (if t215 = t219 then (if t222 = t224 then (if t223 = t225 then (if t226 = t228 then (if t227 = t229 then ((musterkit_SameCuts.f k bt230.1 bt234.1).bind fun t239 => (if t239 = true then (if bt230.2 = bt234.2 then ((steps_Right.f k t211).bind fun t240 => ((musterref11_Right.f k l0).bind fun t241 => (musterlaw11_StepsTells.j0 k l0 t211 bt230.1 (t240 != t241)))) else (musterlaw11_StepsTells.j0 k l0 t211 bt230.1 true)) else (musterlaw11_StepsTells.j0 k l0 t211 bt230.1 true))) else (musterlaw11_StepsTells.j0 k l0 t211 bt230.1 true)) else (musterlaw11_StepsTells.j0 k l0 t211 bt230.1 true)) else (musterlaw11_StepsTells.j0 k l0 t211 bt230.1 true)) else (musterlaw11_StepsTells.j0 k l0 t211 bt230.1 true)) else (musterlaw11_StepsTells.j0 k l0 t211 bt230.1 true)) else (musterlaw11_StepsTells.j0 k l0 t211 bt230.1 true))))) = some r := H
  have A9 := Aside0.mk A90
  clear A90
  replace H := Option.bind_eq_some_iff.mp H
  obtain ⟨⟨t230, t231⟩, A100, H⟩ := H
  replace H : ((musterref11_Add.f k l0 a1_0 a1_1 a1_2).bind fun bt234 => ((musterkit_SameCuts.f k t214 t218).bind fun t238 => (if t238 = true then (if t215 = t219 then (if t222 = t224 then (if t223 = t225 then (if t226 = t228 then (if t227 = t229 then ((musterkit_SameCuts.f k t230 bt234.1).bind fun t239 => (if t239 = true then (if t231 = bt234.2 then ((steps_Right.f k t211).bind fun t240 => ((musterref11_Right.f k l0).bind fun t241 => (musterlaw11_StepsTells.j0 k l0 t211 t230 (t240 != t241)))) else (musterlaw11_StepsTells.j0 k l0 t211 t230 true)) else (musterlaw11_StepsTells.j0 k l0 t211 t230 true))) else (musterlaw11_StepsTells.j0 k l0 t211 t230 true)) else (musterlaw11_StepsTells.j0 k l0 t211 t230 true)) else (musterlaw11_StepsTells.j0 k l0 t211 t230 true)) else (musterlaw11_StepsTells.j0 k l0 t211 t230 true)) else (musterlaw11_StepsTells.j0 k l0 t211 t230 true)) else (musterlaw11_StepsTells.j0 k l0 t211 t230 true)))) = some r := H
  have A10 := Aside0.mk A100
  clear A100
  replace H := Option.bind_eq_some_iff.mp H
  obtain ⟨⟨t234, t235⟩, A110, H⟩ := H
  replace H : ((musterkit_SameCuts.f k t214 t218).bind fun t238 => (if t238 = true then (if t215 = t219 then (if t222 = t224 then (if t223 = t225 then (if t226 = t228 then (if t227 = t229 then ((musterkit_SameCuts.f k t230 t234).bind fun t239 => (if t239 = true then (if t231 = t235 then ((steps_Right.f k t211).bind fun t240 => ((musterref11_Right.f k l0).bind fun t241 => (musterlaw11_StepsTells.j0 k l0 t211 t230 (t240 != t241)))) else (musterlaw11_StepsTells.j0 k l0 t211 t230 true)) else (musterlaw11_StepsTells.j0 k l0 t211 t230 true))) else (musterlaw11_StepsTells.j0 k l0 t211 t230 true)) else (musterlaw11_StepsTells.j0 k l0 t211 t230 true)) else (musterlaw11_StepsTells.j0 k l0 t211 t230 true)) else (musterlaw11_StepsTells.j0 k l0 t211 t230 true)) else (musterlaw11_StepsTells.j0 k l0 t211 t230 true)) else (musterlaw11_StepsTells.j0 k l0 t211 t230 true))) = some r := H
  have A11 := Aside0.mk A110
  clear A110
  have HC12 := Aside0.mk H
  clear H
  go_enter Try.func5, Try.ntmps5
  go_upto_region 10 with (first | ((with_reducible refine gate_dst (N := 3) rfl ?_); refine box_event ?hg (N := 3) ?hd (cs := #[.int .i64 a1_0, .int .i64 a1_1, .int .i64 a1_2]) (t := 24) ?hr ?_; (case hd => rfl); (case hg => rfl); (case hr => first | (go_simp; done) | (go_simp; rfl)); intro gb210 hg w13 hbox hb; have n0_ := Aside0.mk (below_step (by repeat (first | (with_reducible first | exact HB.out | apply below_alloc | apply pw_below_drewN | apply below_drew1) | exact HB.out)) hb); have n1_ := Aside0.mk (hbox); have n2_ := Aside0.mk ((by rw [hg]; exact (below_size (by repeat (first | (with_reducible first | exact HB.out | apply below_alloc | apply pw_below_drewN | apply below_drew1) | exact HB.out))) : w.heap.size ≤ gb210)); have n3_ := Aside0.mk ((by rw [hg]; exact (below_size (by repeat (first | (with_reducible first | exact HB.out | apply below_alloc | apply pw_below_drewN | apply below_drew1) | exact HB.out))) : w.heap.size ≤ gb210)); clear HB; have HB := n0_; have BK210 := n1_; have GW210 := n2_; have GE210 := n3_; clear n0_ n1_ n2_ n3_; clear hb hbox hg) | ((with_reducible refine gate_callee (f := 8) rfl ?_); refine goesL_ (some 24) rfl rfl Try.func8 (by kernel_rfl) rfl #[.slice A0 l0.length c0] rfl (by (try simp only [List.map_toArray, List.map_cons, List.map_nil]); first | done | rfl | (simp only [List.length_drop, List.length_take]; rfl)) ?_; (with_reducible refine (musterkit_CopyCuts.calls k _ _ l0 t211 _ ?side1 ?side2 A3.out).mono ?_); (case side1 => repeat (first | exact (Kd.C_below HR0.out HB.out) | (with_reducible refine Kd.C_alloc ?_ _) | (with_reducible refine Kd.C_drewN ?_ _) | (with_reducible refine Kd.C_drew ?_))); (case side2 => exact HC0.out); rintro e w14 ⟨v212, rfl, ho0, hb⟩; refine ⟨_, rfl, ?_⟩; have n0_ := Aside0.mk (Kd.R_lower ho0 (below_size (by repeat (first | (with_reducible first | exact HB.out | apply below_alloc | apply pw_below_drewN | apply below_drew1 | refine below_set ?_ GE210.out) | exact HB.out)))); have n1_ := Aside0.mk (blk_below (g := gb210) (o := .cells #[.int .i64 a1_0, .int .i64 a1_1, .int .i64 a1_2] 24 (0, 0)) (by (with_reducible repeat (first | refine blk_drewN ?_ _ | refine blk_drew ?_ | refine blk_alloc ?_ _)); exact BK210.out) hb); have n2_ := Aside0.mk (below_step (by repeat (first | (with_reducible first | exact HB.out | apply below_alloc | apply pw_below_drewN | apply below_drew1 | refine below_set ?_ GE210.out) | exact HB.out)) hb); clear BK210; clear HB; have HO213 := n0_; have BK210 := n1_; have HB := n2_; clear n0_ n1_ n2_; (try clear hb); (try clear hb2); (try clear hk); (try clear hi); (try clear ho0); have hcz15_0 : w14.cell? ⟨gb210, 0, none⟩ = some (.int .i64 a1_0) := (blk_cell BK210.out 0).trans rfl; have hcz15_1 : w14.cell? ⟨gb210, 1, none⟩ = some (.int .i64 a1_1) := (blk_cell BK210.out 1).trans rfl; have hcz15_2 : w14.cell? ⟨gb210, 2, none⟩ = some (.int .i64 a1_2) := (blk_cell BK210.out 2).trans rfl; have hfz15_0 := blk_frozen BK210.out 0; have hfz15_1 := blk_frozen BK210.out 1; have hfz15_2 := blk_frozen BK210.out 2) | ((with_reducible refine gate_callee (f := 12) rfl ?_); refine goesL_ (some 28) rfl rfl Try.func12 (by kernel_rfl) rfl #[.int .i64 a1_2] rfl (by (try simp only [List.map_toArray, List.map_cons, List.map_nil]); first | done | rfl | (simp only [List.length_drop, List.length_take]; rfl)) ?_; (with_reducible refine (steps_Flat.calls a1_2 t214 t215 _ A4.out).mono ?_); rintro e w16 ⟨v216, rfl, ho0, hb⟩; refine ⟨_, rfl, ?_⟩; have n0_ := Aside0.mk (Kd.R_elder' (by (with_reducible repeat (first | apply Kd.R_alloc | apply Kd.R_drewN | apply Kd.R_drew)); exact HO213.out) (Kd.R_base ho0) hb); have n1_ := Aside0.mk (Kd.R_lower (Kd.R_new' ho0 (Kd.R_lt (by (with_reducible repeat (first | apply Kd.R_alloc | apply Kd.R_drewN | apply Kd.R_drew)); exact HO213.out))) (below_size (by repeat (first | (with_reducible first | exact HB.out | apply below_alloc | apply pw_below_drewN | apply below_drew1 | refine below_set ?_ GE210.out) | exact HB.out)))); have n2_ := Aside0.mk (blk_below (g := gb210) (o := .cells #[.int .i64 a1_0, .int .i64 a1_1, .int .i64 a1_2] 24 (0, 0)) (by (with_reducible repeat (first | refine blk_drewN ?_ _ | refine blk_drew ?_ | refine blk_alloc ?_ _)); exact BK210.out) hb); have n3_ := Aside0.mk (below_step (by repeat (first | (with_reducible first | exact HB.out | apply below_alloc | apply pw_below_drewN | apply below_drew1 | refine below_set ?_ GE210.out) | exact HB.out)) hb); clear HO213; clear BK210; clear HB; have HO213 := n0_; have HO217 := n1_; have BK210 := n2_; have HB := n3_; clear n0_ n1_ n2_ n3_; (try clear hb); (try clear hb2); (try clear hk); (try clear hi); (try clear ho0); have hcz17_0 : w16.cell? ⟨gb210, 0, none⟩ = some (.int .i64 a1_0) := (blk_cell BK210.out 0).trans rfl; have hcz17_1 : w16.cell? ⟨gb210, 1, none⟩ = some (.int .i64 a1_1) := (blk_cell BK210.out 1).trans rfl; have hcz17_2 : w16.cell? ⟨gb210, 2, none⟩ = some (.int .i64 a1_2) := (blk_cell BK210.out 2).trans rfl; have hfz17_0 := blk_frozen BK210.out 0; have hfz17_1 := blk_frozen BK210.out 1; have hfz17_2 := blk_frozen BK210.out 2) | ((with_reducible refine gate_callee (f := 13) rfl ?_); refine goesL_ (some 34) rfl rfl Try.func13 (by kernel_rfl) rfl #[.int .i64 a1_2] rfl (by (try simp only [List.map_toArray, List.map_cons, List.map_nil]); first | done | rfl | (simp only [List.length_drop, List.length_take]; rfl)) ?_; (with_reducible refine (musterref11_Flat.calls a1_2 t218 t219 _ A5.out).mono ?_); rintro e w18 ⟨v220, rfl, ho0, hb⟩; refine ⟨_, rfl, ?_⟩; have n0_ := Aside0.mk (Kd.R_elder' (by (with_reducible repeat (first | apply Kd.R_alloc | apply Kd.R_drewN | apply Kd.R_drew)); exact HO213.out) (Kd.R_base ho0) hb); have n1_ := Aside0.mk (Kd.R_elder' (by (with_reducible repeat (first | apply Kd.R_alloc | apply Kd.R_drewN | apply Kd.R_drew)); exact HO217.out) (Kd.R_base ho0) hb); have n2_ := Aside0.mk (Kd.R_lower (Kd.R_new' (Kd.R_new' ho0 (Kd.R_lt (by (with_reducible repeat (first | apply Kd.R_alloc | apply Kd.R_drewN | apply Kd.R_drew)); exact HO213.out))) (Kd.R_lt (by (with_reducible repeat (first | apply Kd.R_alloc | apply Kd.R_drewN | apply Kd.R_drew)); exact HO217.out))) (below_size (by repeat (first | (with_reducible first | exact HB.out | apply below_alloc | apply pw_below_drewN | apply below_drew1 | refine below_set ?_ GE210.out) | exact HB.out)))); have n3_ := Aside0.mk (blk_below (g := gb210) (o := .cells #[.int .i64 a1_0, .int .i64 a1_1, .int .i64 a1_2] 24 (0, 0)) (by (with_reducible repeat (first | refine blk_drewN ?_ _ | refine blk_drew ?_ | refine blk_alloc ?_ _)); exact BK210.out) hb); have n4_ := Aside0.mk (below_step (by repeat (first | (with_reducible first | exact HB.out | apply below_alloc | apply pw_below_drewN | apply below_drew1 | refine below_set ?_ GE210.out) | exact HB.out)) hb); clear HO213; clear HO217; clear BK210; clear HB; have HO213 := n0_; have HO217 := n1_; have HO221 := n2_; have BK210 := n3_; have HB := n4_; clear n0_ n1_ n2_ n3_ n4_; (try clear hb); (try clear hb2); (try clear hk); (try clear hi); (try clear ho0); have hcz19_0 : w18.cell? ⟨gb210, 0, none⟩ = some (.int .i64 a1_0) := (blk_cell BK210.out 0).trans rfl; have hcz19_1 : w18.cell? ⟨gb210, 1, none⟩ = some (.int .i64 a1_1) := (blk_cell BK210.out 1).trans rfl; have hcz19_2 : w18.cell? ⟨gb210, 2, none⟩ = some (.int .i64 a1_2) := (blk_cell BK210.out 2).trans rfl; have hfz19_0 := blk_frozen BK210.out 0; have hfz19_1 := blk_frozen BK210.out 1; have hfz19_2 := blk_frozen BK210.out 2; obtain ⟨Ao20, co20, eo20⟩ := Kd.R_slice HO213.out; subst eo20) | ((with_reducible refine gate_callee (f := 14) rfl ?_); refine goesL_ (some 41) rfl rfl Try.func14 (by kernel_rfl) rfl #[.slice Ao20 t211.length co20, .int .i64 a1_0] rfl (by (try simp only [List.map_toArray, List.map_cons, List.map_nil]); first | done | rfl | (simp only [List.length_drop, List.length_take]; rfl)) ?_; (with_reducible refine (steps_At.calls k _ _ t211 a1_0 t222 t223 _ ?side1 ?side2 A6.out).mono ?_); (case side1 => repeat (first | exact (Kd.R_reads' HO213.out).2.2 | (with_reducible refine Kd.C_alloc ?_ _) | (with_reducible refine Kd.C_drewN ?_ _) | (with_reducible refine Kd.C_drew ?_))); (case side2 => exact (Kd.R_reads' HO213.out).2.1); rintro e w21 ⟨rfl, hb⟩; refine ⟨_, rfl, ?_⟩; have n0_ := Aside0.mk (Kd.R_below (by (with_reducible repeat (first | apply Kd.R_alloc | apply Kd.R_drewN | apply Kd.R_drew)); exact HO213.out) hb); have n1_ := Aside0.mk (Kd.R_below (by (with_reducible repeat (first | apply Kd.R_alloc | apply Kd.R_drewN | apply Kd.R_drew)); exact HO217.out) hb); have n2_ := Aside0.mk (Kd.R_below (by (with_reducible repeat (first | apply Kd.R_alloc | apply Kd.R_drewN | apply Kd.R_drew)); exact HO221.out) hb); have n3_ := Aside0.mk (blk_below (g := gb210) (o := .cells #[.int .i64 a1_0, .int .i64 a1_1, .int .i64 a1_2] 24 (0, 0)) (by (with_reducible repeat (first | refine blk_drewN ?_ _ | refine blk_drew ?_ | refine blk_alloc ?_ _)); exact BK210.out) hb); have n4_ := Aside0.mk (below_step (by repeat (first | (with_reducible first | exact HB.out | apply below_alloc | apply pw_below_drewN | apply below_drew1 | refine below_set ?_ GE210.out) | exact HB.out)) hb); clear HO213; clear HO217; clear HO221; clear BK210; clear HB; have HO213 := n0_; have HO217 := n1_; have HO221 := n2_; have BK210 := n3_; have HB := n4_; clear n0_ n1_ n2_ n3_ n4_; (try clear hb); (try clear hb2); (try clear hk); (try clear hi); have hcz22_0 : w21.cell? ⟨gb210, 0, none⟩ = some (.int .i64 a1_0) := (blk_cell BK210.out 0).trans rfl; have hcz22_1 : w21.cell? ⟨gb210, 1, none⟩ = some (.int .i64 a1_1) := (blk_cell BK210.out 1).trans rfl; have hcz22_2 : w21.cell? ⟨gb210, 2, none⟩ = some (.int .i64 a1_2) := (blk_cell BK210.out 2).trans rfl; have hfz22_0 := blk_frozen BK210.out 0; have hfz22_1 := blk_frozen BK210.out 1; have hfz22_2 := blk_frozen BK210.out 2) | ((with_reducible refine gate_callee (f := 15) rfl ?_); refine goesL_ (some 48) rfl rfl Try.func15 (by kernel_rfl) rfl #[.slice A0 l0.length c0, .int .i64 a1_0] rfl (by (try simp only [List.map_toArray, List.map_cons, List.map_nil]); first | done | rfl | (simp only [List.length_drop, List.length_take]; rfl)) ?_; (with_reducible refine (musterref11_At.calls k _ _ l0 a1_0 t224 t225 _ ?side1 ?side2 A7.out).mono ?_); (case side1 => repeat (first | exact (Kd.C_below HR0.out HB.out) | (with_reducible refine Kd.C_alloc ?_ _) | (with_reducible refine Kd.C_drewN ?_ _) | (with_reducible refine Kd.C_drew ?_))); (case side2 => exact HC0.out); rintro e w' ⟨rfl, ⟨nd, rfl⟩⟩; refine ⟨_, rfl, ?_⟩) | ((with_reducible refine gate_callee (f := 11) rfl ?_); refine goesL_ (some 57) rfl rfl Try.func11 (by kernel_rfl) rfl #[.slice Ao20 t211.length co20, .int .i64 a1_0, .int .i64 a1_1] rfl (by (try simp only [List.map_toArray, List.map_cons, List.map_nil]); first | done | rfl | (simp only [List.length_drop, List.length_take]; rfl)) ?_; (with_reducible refine (steps_Least.calls k _ _ t211 a1_0 a1_1 t226 t227 _ ?side1 ?side2 A8.out).mono ?_); (case side1 => repeat (first | exact (Kd.R_reads' HO213.out).2.2 | (with_reducible refine Kd.C_alloc ?_ _) | (with_reducible refine Kd.C_drewN ?_ _) | (with_reducible refine Kd.C_drew ?_))); (case side2 => exact (Kd.R_reads' HO213.out).2.1); rintro e w23 ⟨rfl, hb⟩; refine ⟨_, rfl, ?_⟩; have n0_ := Aside0.mk (Kd.R_below (by (with_reducible repeat (first | apply Kd.R_alloc | apply Kd.R_drewN | apply Kd.R_drew)); exact HO213.out) hb); have n1_ := Aside0.mk (Kd.R_below (by (with_reducible repeat (first | apply Kd.R_alloc | apply Kd.R_drewN | apply Kd.R_drew)); exact HO217.out) hb); have n2_ := Aside0.mk (Kd.R_below (by (with_reducible repeat (first | apply Kd.R_alloc | apply Kd.R_drewN | apply Kd.R_drew)); exact HO221.out) hb); have n3_ := Aside0.mk (blk_below (g := gb210) (o := .cells #[.int .i64 a1_0, .int .i64 a1_1, .int .i64 a1_2] 24 (0, 0)) (by (with_reducible repeat (first | refine blk_drewN ?_ _ | refine blk_drew ?_ | refine blk_alloc ?_ _)); exact BK210.out) hb); have n4_ := Aside0.mk (below_step (by repeat (first | (with_reducible first | exact HB.out | apply below_alloc | apply pw_below_drewN | apply below_drew1 | refine below_set ?_ GE210.out) | exact HB.out)) hb); clear HO213; clear HO217; clear HO221; clear BK210; clear HB; have HO213 := n0_; have HO217 := n1_; have HO221 := n2_; have BK210 := n3_; have HB := n4_; clear n0_ n1_ n2_ n3_ n4_; (try clear hb); (try clear hb2); (try clear hk); (try clear hi); have hcz24_0 : w23.cell? ⟨gb210, 0, none⟩ = some (.int .i64 a1_0) := (blk_cell BK210.out 0).trans rfl; have hcz24_1 : w23.cell? ⟨gb210, 1, none⟩ = some (.int .i64 a1_1) := (blk_cell BK210.out 1).trans rfl; have hcz24_2 : w23.cell? ⟨gb210, 2, none⟩ = some (.int .i64 a1_2) := (blk_cell BK210.out 2).trans rfl; have hfz24_0 := blk_frozen BK210.out 0; have hfz24_1 := blk_frozen BK210.out 1; have hfz24_2 := blk_frozen BK210.out 2) | ((with_reducible refine gate_callee (f := 16) rfl ?_); refine goesL_ (some 66) rfl rfl Try.func16 (by kernel_rfl) rfl #[.slice A0 l0.length c0, .int .i64 a1_0, .int .i64 a1_1] rfl (by (try simp only [List.map_toArray, List.map_cons, List.map_nil]); first | done | rfl | (simp only [List.length_drop, List.length_take]; rfl)) ?_; (with_reducible refine (musterref11_Least.calls k _ _ l0 a1_0 a1_1 t228 t229 _ ?side1 ?side2 A9.out).mono ?_); (case side1 => repeat (first | exact (Kd.C_below HR0.out HB.out) | (with_reducible refine Kd.C_alloc ?_ _) | (with_reducible refine Kd.C_drewN ?_ _) | (with_reducible refine Kd.C_drew ?_))); (case side2 => exact HC0.out); rintro e w' ⟨rfl, ⟨nd, rfl⟩⟩; refine ⟨_, rfl, ?_⟩) | ((with_reducible refine gate_callee (f := 17) rfl ?_); refine goesL_ (some 77) rfl rfl Try.func17 (by kernel_rfl) rfl #[.slice Ao20 t211.length co20, .int .i64 a1_0, .int .i64 a1_1, .int .i64 a1_2] rfl (by (try simp only [List.map_toArray, List.map_cons, List.map_nil]); first | done | rfl | (simp only [List.length_drop, List.length_take]; rfl)) ?_; (with_reducible refine (steps_Add.calls k _ _ t211 a1_0 a1_1 a1_2 t230 t231 _ ?side1 ?side2 A10.out).mono ?_); (case side1 => repeat (first | exact (Kd.R_reads' HO213.out).2.2 | (with_reducible refine Kd.C_alloc ?_ _) | (with_reducible refine Kd.C_drewN ?_ _) | (with_reducible refine Kd.C_drew ?_))); (case side2 => exact (Kd.R_reads' HO213.out).2.1); rintro e w25 ⟨v232, rfl, ho0, hb⟩; refine ⟨_, rfl, ?_⟩; have n0_ := Aside0.mk (Kd.R_elder' (by (with_reducible repeat (first | apply Kd.R_alloc | apply Kd.R_drewN | apply Kd.R_drew)); exact HO213.out) (Kd.R_base ho0) hb); have n1_ := Aside0.mk (Kd.R_elder' (by (with_reducible repeat (first | apply Kd.R_alloc | apply Kd.R_drewN | apply Kd.R_drew)); exact HO217.out) (Kd.R_base ho0) hb); have n2_ := Aside0.mk (Kd.R_elder' (by (with_reducible repeat (first | apply Kd.R_alloc | apply Kd.R_drewN | apply Kd.R_drew)); exact HO221.out) (Kd.R_base ho0) hb); have n3_ := Aside0.mk (Kd.R_lower (Kd.R_new' (Kd.R_new' (Kd.R_new' ho0 (Kd.R_lt (by (with_reducible repeat (first | apply Kd.R_alloc | apply Kd.R_drewN | apply Kd.R_drew)); exact HO213.out))) (Kd.R_lt (by (with_reducible repeat (first | apply Kd.R_alloc | apply Kd.R_drewN | apply Kd.R_drew)); exact HO217.out))) (Kd.R_lt (by (with_reducible repeat (first | apply Kd.R_alloc | apply Kd.R_drewN | apply Kd.R_drew)); exact HO221.out))) (below_size (by repeat (first | (with_reducible first | exact HB.out | apply below_alloc | apply pw_below_drewN | apply below_drew1 | refine below_set ?_ GE210.out) | exact HB.out)))); have n4_ := Aside0.mk (blk_below (g := gb210) (o := .cells #[.int .i64 a1_0, .int .i64 a1_1, .int .i64 a1_2] 24 (0, 0)) (by (with_reducible repeat (first | refine blk_drewN ?_ _ | refine blk_drew ?_ | refine blk_alloc ?_ _)); exact BK210.out) hb); have n5_ := Aside0.mk (below_step (by repeat (first | (with_reducible first | exact HB.out | apply below_alloc | apply pw_below_drewN | apply below_drew1 | refine below_set ?_ GE210.out) | exact HB.out)) hb); clear HO213; clear HO217; clear HO221; clear BK210; clear HB; have HO213 := n0_; have HO217 := n1_; have HO221 := n2_; have HO233 := n3_; have BK210 := n4_; have HB := n5_; clear n0_ n1_ n2_ n3_ n4_ n5_; (try clear hb); (try clear hb2); (try clear hk); (try clear hi); (try clear ho0); have hcz26_0 : w25.cell? ⟨gb210, 0, none⟩ = some (.int .i64 a1_0) := (blk_cell BK210.out 0).trans rfl; have hcz26_1 : w25.cell? ⟨gb210, 1, none⟩ = some (.int .i64 a1_1) := (blk_cell BK210.out 1).trans rfl; have hcz26_2 : w25.cell? ⟨gb210, 2, none⟩ = some (.int .i64 a1_2) := (blk_cell BK210.out 2).trans rfl; have hfz26_0 := blk_frozen BK210.out 0; have hfz26_1 := blk_frozen BK210.out 1; have hfz26_2 := blk_frozen BK210.out 2) | ((with_reducible refine gate_callee (f := 18) rfl ?_); refine goesL_ (some 88) rfl rfl Try.func18 (by kernel_rfl) rfl #[.slice A0 l0.length c0, .int .i64 a1_0, .int .i64 a1_1, .int .i64 a1_2] rfl (by (try simp only [List.map_toArray, List.map_cons, List.map_nil]); first | done | rfl | (simp only [List.length_drop, List.length_take]; rfl)) ?_; (with_reducible refine (musterref11_Add.calls k _ _ l0 a1_0 a1_1 a1_2 t234 t235 _ ?side1 ?side2 A11.out).mono ?_); (case side1 => repeat (first | exact (Kd.C_below HR0.out HB.out) | (with_reducible refine Kd.C_alloc ?_ _) | (with_reducible refine Kd.C_drewN ?_ _) | (with_reducible refine Kd.C_drew ?_))); (case side2 => exact HC0.out); rintro e w27 ⟨v236, rfl, ho0, hb⟩; refine ⟨_, rfl, ?_⟩; have n0_ := Aside0.mk (Kd.R_elder' (by (with_reducible repeat (first | apply Kd.R_alloc | apply Kd.R_drewN | apply Kd.R_drew)); exact HO213.out) (Kd.R_base ho0) hb); have n1_ := Aside0.mk (Kd.R_elder' (by (with_reducible repeat (first | apply Kd.R_alloc | apply Kd.R_drewN | apply Kd.R_drew)); exact HO217.out) (Kd.R_base ho0) hb); have n2_ := Aside0.mk (Kd.R_elder' (by (with_reducible repeat (first | apply Kd.R_alloc | apply Kd.R_drewN | apply Kd.R_drew)); exact HO221.out) (Kd.R_base ho0) hb); have n3_ := Aside0.mk (Kd.R_elder' (by (with_reducible repeat (first | apply Kd.R_alloc | apply Kd.R_drewN | apply Kd.R_drew)); exact HO233.out) (Kd.R_base ho0) hb); have n4_ := Aside0.mk (Kd.R_lower (Kd.R_new' (Kd.R_new' (Kd.R_new' (Kd.R_new' ho0 (Kd.R_lt (by (with_reducible repeat (first | apply Kd.R_alloc | apply Kd.R_drewN | apply Kd.R_drew)); exact HO213.out))) (Kd.R_lt (by (with_reducible repeat (first | apply Kd.R_alloc | apply Kd.R_drewN | apply Kd.R_drew)); exact HO217.out))) (Kd.R_lt (by (with_reducible repeat (first | apply Kd.R_alloc | apply Kd.R_drewN | apply Kd.R_drew)); exact HO221.out))) (Kd.R_lt (by (with_reducible repeat (first | apply Kd.R_alloc | apply Kd.R_drewN | apply Kd.R_drew)); exact HO233.out))) (below_size (by repeat (first | (with_reducible first | exact HB.out | apply below_alloc | apply pw_below_drewN | apply below_drew1 | refine below_set ?_ GE210.out) | exact HB.out)))); have n5_ := Aside0.mk (blk_below (g := gb210) (o := .cells #[.int .i64 a1_0, .int .i64 a1_1, .int .i64 a1_2] 24 (0, 0)) (by (with_reducible repeat (first | refine blk_drewN ?_ _ | refine blk_drew ?_ | refine blk_alloc ?_ _)); exact BK210.out) hb); have n6_ := Aside0.mk (below_step (by repeat (first | (with_reducible first | exact HB.out | apply below_alloc | apply pw_below_drewN | apply below_drew1 | refine below_set ?_ GE210.out) | exact HB.out)) hb); clear HO213; clear HO217; clear HO221; clear HO233; clear BK210; clear HB; have HO213 := n0_; have HO217 := n1_; have HO221 := n2_; have HO233 := n3_; have HO237 := n4_; have BK210 := n5_; have HB := n6_; clear n0_ n1_ n2_ n3_ n4_ n5_ n6_; (try clear hb); (try clear hb2); (try clear hk); (try clear hi); (try clear ho0)))
  (try simp only [Act.put, List.setIfInBounds_toArray, List.set_cons_zero, List.set_cons_succ])
  go_cut [137] (fun v137 wc => ∃ (kq : Nat) (x137_11 : Bool), v137 = .bool x137_11 ∧ Aside0 (musterlaw11_StepsTells.j0 kq l0 t211 t230 x137_11 = some r) ∧ Aside0 (kq ≤ k) ∧ Aside0 (Kd.R k34 34 wc w.heap.size (fun k_ => some k_ ≠ (v232 : Value).ownBlock) (.slice Ao20 t211.length co20) t211) ∧ Aside0 (Kd.R k34 34 wc w.heap.size (fun k_ => some k_ ≠ ((.slice Ao20 t211.length co20) : Value).ownBlock) v232 t230) ∧ Aside0 (wc.heap[gb210]? = some (.cells #[.int .i64 a1_0, .int .i64 a1_1, .int .i64 a1_2] 24 (0, 0))) ∧ Aside0 (Below w.heap.size w wc))
  case first =>
    have H := HC12.out
    clear HC12
    replace H := Option.bind_eq_some_iff.mp H
    obtain ⟨t238, A280, H⟩ := H
    replace H : (if t238 = true then (if t215 = t219 then (if t222 = t224 then (if t223 = t225 then (if t226 = t228 then (if t227 = t229 then ((musterkit_SameCuts.f k t230 t234).bind fun t239 => (if t239 = true then (if t231 = t235 then ((steps_Right.f k t211).bind fun t240 => ((musterref11_Right.f k l0).bind fun t241 => (musterlaw11_StepsTells.j0 k l0 t211 t230 (t240 != t241)))) else (musterlaw11_StepsTells.j0 k l0 t211 t230 true)) else (musterlaw11_StepsTells.j0 k l0 t211 t230 true))) else (musterlaw11_StepsTells.j0 k l0 t211 t230 true)) else (musterlaw11_StepsTells.j0 k l0 t211 t230 true)) else (musterlaw11_StepsTells.j0 k l0 t211 t230 true)) else (musterlaw11_StepsTells.j0 k l0 t211 t230 true)) else (musterlaw11_StepsTells.j0 k l0 t211 t230 true)) else (musterlaw11_StepsTells.j0 k l0 t211 t230 true)) = some r := H
    have A28 := Aside0.mk A280
    clear A280
    by_cases c29 : t238 = true
    · subst c29
      have H1 : (if t215 = t219 then (if t222 = t224 then (if t223 = t225 then (if t226 = t228 then (if t227 = t229 then ((musterkit_SameCuts.f k t230 t234).bind fun t239 => (if t239 = true then (if t231 = t235 then ((steps_Right.f k t211).bind fun t240 => ((musterref11_Right.f k l0).bind fun t241 => (musterlaw11_StepsTells.j0 k l0 t211 t230 (t240 != t241)))) else (musterlaw11_StepsTells.j0 k l0 t211 t230 true)) else (musterlaw11_StepsTells.j0 k l0 t211 t230 true))) else (musterlaw11_StepsTells.j0 k l0 t211 t230 true)) else (musterlaw11_StepsTells.j0 k l0 t211 t230 true)) else (musterlaw11_StepsTells.j0 k l0 t211 t230 true)) else (musterlaw11_StepsTells.j0 k l0 t211 t230 true)) else (musterlaw11_StepsTells.j0 k l0 t211 t230 true)) = some r := by rw [if_pos rfl] at H; exact H
      clear H
      have H := H1
      clear H1
      by_cases c30 : t215 = t219
      · rw [if_pos c30] at H
        have c30b0 : (t215 == t219) = true := beq_iff_eq.mpr c30
        have c30b1 : (t215 != t219) = false := bne_eq_false_iff_eq.mpr c30
        clear c30
        (first | rw [c30b0] | (simp only [i64_w, i32_w]; rw [c30b0]) | skip)
        by_cases c31 : t222 = t224
        · rw [if_pos c31] at H
          have c31b0 : (t222 == t224) = true := beq_iff_eq.mpr c31
          have c31b1 : (t222 != t224) = false := bne_eq_false_iff_eq.mpr c31
          clear c31
          by_cases c32 : t223 = t225
          · rw [if_pos c32] at H
            have c32b0 : (t223 == t225) = true := beq_iff_eq.mpr c32
            have c32b1 : (t223 != t225) = false := bne_eq_false_iff_eq.mpr c32
            clear c32
            by_cases c33 : t226 = t228
            · rw [if_pos c33] at H
              have c33b0 : (t226 == t228) = true := beq_iff_eq.mpr c33
              have c33b1 : (t226 != t228) = false := bne_eq_false_iff_eq.mpr c33
              clear c33
              by_cases c34 : t227 = t229
              · rw [if_pos c34] at H
                have c34b0 : (t227 == t229) = true := beq_iff_eq.mpr c34
                have c34b1 : (t227 != t229) = false := bne_eq_false_iff_eq.mpr c34
                clear c34
                replace H := Option.bind_eq_some_iff.mp H
                obtain ⟨t239, A350, H⟩ := H
                replace H : (if t239 = true then (if t231 = t235 then ((steps_Right.f k t211).bind fun t240 => ((musterref11_Right.f k l0).bind fun t241 => (musterlaw11_StepsTells.j0 k l0 t211 t230 (t240 != t241)))) else (musterlaw11_StepsTells.j0 k l0 t211 t230 true)) else (musterlaw11_StepsTells.j0 k l0 t211 t230 true)) = some r := H
                have A35 := Aside0.mk A350
                clear A350
                by_cases c36 : t239 = true
                · subst c36
                  have H1 : (if t231 = t235 then ((steps_Right.f k t211).bind fun t240 => ((musterref11_Right.f k l0).bind fun t241 => (musterlaw11_StepsTells.j0 k l0 t211 t230 (t240 != t241)))) else (musterlaw11_StepsTells.j0 k l0 t211 t230 true)) = some r := by rw [if_pos rfl] at H; exact H
                  clear H
                  have H := H1
                  clear H1
                  by_cases c37 : t231 = t235
                  · rw [if_pos c37] at H
                    have c37b0 : (t231 == t235) = true := beq_iff_eq.mpr c37
                    have c37b1 : (t231 != t235) = false := bne_eq_false_iff_eq.mpr c37
                    clear c37
                    replace H := Option.bind_eq_some_iff.mp H
                    obtain ⟨t240, A380, H⟩ := H
                    replace H : ((musterref11_Right.f k l0).bind fun t241 => (musterlaw11_StepsTells.j0 k l0 t211 t230 (t240 != t241))) = some r := H
                    have A38 := Aside0.mk A380
                    clear A380
                    replace H := Option.bind_eq_some_iff.mp H
                    obtain ⟨t241, A390, H⟩ := H
                    replace H : (musterlaw11_StepsTells.j0 k l0 t211 t230 (t240 != t241)) = some r := H
                    have A39 := Aside0.mk A390
                    clear A390
                    have H' := Aside0.mk H
                    clear H
                    obtain ⟨Ao40, co40, eo40⟩ := Kd.R_slice HO217.out
                    subst eo40
                    obtain ⟨Ao41, co41, eo41⟩ := Kd.R_slice HO221.out
                    subst eo41
                    go_wp2_with (first | ((with_reducible refine gate_callee (f := 19) rfl ?_); refine goesL_ (some 93) rfl rfl Try.func19 (by kernel_rfl) rfl #[.slice Ao40 t214.length co40, .slice Ao41 t218.length co41] rfl (by (try simp only [List.map_toArray, List.map_cons, List.map_nil]); first | done | rfl | (simp only [List.length_drop, List.length_take]; rfl)) ?_; (with_reducible refine (musterkit_SameCuts.calls k _ _ t214 _ _ t218 true _ ?side1 ?side2 ?side3 ?side4 A28.out).mono ?_); (case side1 => repeat (first | exact (Kd.R_reads' HO217.out).2.2 | (with_reducible refine Kd.C_alloc ?_ _) | (with_reducible refine Kd.C_drewN ?_ _) | (with_reducible refine Kd.C_drew ?_))); (case side2 => exact (Kd.R_reads' HO217.out).2.1); (case side3 => repeat (first | exact (Kd.R_reads' HO221.out).2.2 | (with_reducible refine Kd.C_alloc ?_ _) | (with_reducible refine Kd.C_drewN ?_ _) | (with_reducible refine Kd.C_drew ?_))); (case side4 => exact (Kd.R_reads' HO221.out).2.1); rintro e w' ⟨rfl, ⟨nd, rfl⟩⟩; refine ⟨_, rfl, ?_⟩; obtain ⟨Ao42, co42, eo42⟩ := Kd.R_slice HO233.out; subst eo42; obtain ⟨Ao43, co43, eo43⟩ := Kd.R_slice HO237.out; subst eo43) | (go_at_call 19; (with_reducible refine (musterkit_SameCuts.calls k _ _ t230 _ _ t234 true _ ?side1 ?side2 ?side3 ?side4 A35.out).mono ?_); (case side1 => repeat (first | exact (Kd.R_reads' HO233.out).2.2 | (with_reducible refine Kd.C_alloc ?_ _) | (with_reducible refine Kd.C_drewN ?_ _) | (with_reducible refine Kd.C_drew ?_))); (case side2 => exact (Kd.R_reads' HO233.out).2.1); (case side3 => repeat (first | exact (Kd.R_reads' HO237.out).2.2 | (with_reducible refine Kd.C_alloc ?_ _) | (with_reducible refine Kd.C_drewN ?_ _) | (with_reducible refine Kd.C_drew ?_))); (case side4 => exact (Kd.R_reads' HO237.out).2.1); rintro e w' ⟨rfl, ⟨nd, rfl⟩⟩) | (go_at_call 20; (with_reducible refine (steps_Right.calls k _ _ t211 t240 _ ?side1 ?side2 A38.out).mono ?_); (case side1 => repeat (first | exact (Kd.R_reads' HO213.out).2.2 | (with_reducible refine Kd.C_alloc ?_ _) | (with_reducible refine Kd.C_drewN ?_ _) | (with_reducible refine Kd.C_drew ?_))); (case side2 => exact (Kd.R_reads' HO213.out).2.1); rintro e w44 ⟨rfl, hb⟩; have n0_ := Aside0.mk (Kd.R_below (by (with_reducible repeat (first | apply Kd.R_alloc | apply Kd.R_drewN | apply Kd.R_drew)); exact HO213.out) hb); have n1_ := Aside0.mk (Kd.R_below (by (with_reducible repeat (first | apply Kd.R_alloc | apply Kd.R_drewN | apply Kd.R_drew)); exact HO217.out) hb); have n2_ := Aside0.mk (Kd.R_below (by (with_reducible repeat (first | apply Kd.R_alloc | apply Kd.R_drewN | apply Kd.R_drew)); exact HO221.out) hb); have n3_ := Aside0.mk (Kd.R_below (by (with_reducible repeat (first | apply Kd.R_alloc | apply Kd.R_drewN | apply Kd.R_drew)); exact HO233.out) hb); have n4_ := Aside0.mk (Kd.R_below (by (with_reducible repeat (first | apply Kd.R_alloc | apply Kd.R_drewN | apply Kd.R_drew)); exact HO237.out) hb); have n5_ := Aside0.mk (blk_below (g := gb210) (o := .cells #[.int .i64 a1_0, .int .i64 a1_1, .int .i64 a1_2] 24 (0, 0)) (by (with_reducible repeat (first | refine blk_drewN ?_ _ | refine blk_drew ?_ | refine blk_alloc ?_ _)); exact BK210.out) hb); have n6_ := Aside0.mk (below_step (by repeat (first | (with_reducible first | exact HB.out | apply below_alloc | apply pw_below_drewN | apply below_drew1 | refine below_set ?_ GE210.out) | exact HB.out)) hb); clear HO213; clear HO217; clear HO221; clear HO233; clear HO237; clear BK210; clear HB; have HO213 := n0_; have HO217 := n1_; have HO221 := n2_; have HO233 := n3_; have HO237 := n4_; have BK210 := n5_; have HB := n6_; clear n0_ n1_ n2_ n3_ n4_ n5_ n6_; (try clear hb); (try clear hb2); (try clear hk); (try clear hi)) | (go_at_call 21; (with_reducible refine (musterref11_Right.calls k _ _ l0 t241 _ ?side1 ?side2 A39.out).mono ?_); (case side1 => repeat (first | exact (Kd.C_below HR0.out HB.out) | (with_reducible refine Kd.C_alloc ?_ _) | (with_reducible refine Kd.C_drewN ?_ _) | (with_reducible refine Kd.C_drew ?_))); (case side2 => exact HC0.out); rintro e w' ⟨rfl, ⟨nd, rfl⟩⟩))
                    go_meet
                    case rel => exact ⟨_, ((t240 != t241)), (by first | rfl | (simp; done) | (simp [*]; done)), H', ⟨by first | omega | exact Nat.le_refl _⟩, ⟨by (with_reducible repeat (first | apply Kd.R_alloc | apply Kd.R_drewN | apply Kd.R_drew)); exact Kd.R_mono HO213.out (fun _ hk => hk.1.2)⟩, ⟨by (with_reducible repeat (first | apply Kd.R_alloc | apply Kd.R_drewN | apply Kd.R_drew)); exact Kd.R_mono HO233.out (fun _ hk => hk.1.1.1.2)⟩, ⟨by (with_reducible repeat (first | refine blk_drewN ?_ _ | refine blk_drew ?_ | refine blk_alloc ?_ _)); exact BK210.out⟩, ⟨by repeat (first | (with_reducible first | exact HB.out | apply below_alloc | apply pw_below_drewN | apply below_drew1 | refine below_set ?_ GE210.out) | exact HB.out)⟩⟩
                  · rw [if_neg c37] at H
                    have c37b0 : (t231 == t235) = false := beq_eq_false_iff_ne.mpr c37
                    have c37b1 : (t231 != t235) = true := bne_iff_ne.mpr c37
                    have H' := Aside0.mk H
                    clear H
                    obtain ⟨Ao45, co45, eo45⟩ := Kd.R_slice HO217.out
                    subst eo45
                    obtain ⟨Ao46, co46, eo46⟩ := Kd.R_slice HO221.out
                    subst eo46
                    go_wp2_with (first | ((with_reducible refine gate_callee (f := 19) rfl ?_); refine goesL_ (some 93) rfl rfl Try.func19 (by kernel_rfl) rfl #[.slice Ao45 t214.length co45, .slice Ao46 t218.length co46] rfl (by (try simp only [List.map_toArray, List.map_cons, List.map_nil]); first | done | rfl | (simp only [List.length_drop, List.length_take]; rfl)) ?_; (with_reducible refine (musterkit_SameCuts.calls k _ _ t214 _ _ t218 true _ ?side1 ?side2 ?side3 ?side4 A28.out).mono ?_); (case side1 => repeat (first | exact (Kd.R_reads' HO217.out).2.2 | (with_reducible refine Kd.C_alloc ?_ _) | (with_reducible refine Kd.C_drewN ?_ _) | (with_reducible refine Kd.C_drew ?_))); (case side2 => exact (Kd.R_reads' HO217.out).2.1); (case side3 => repeat (first | exact (Kd.R_reads' HO221.out).2.2 | (with_reducible refine Kd.C_alloc ?_ _) | (with_reducible refine Kd.C_drewN ?_ _) | (with_reducible refine Kd.C_drew ?_))); (case side4 => exact (Kd.R_reads' HO221.out).2.1); rintro e w' ⟨rfl, ⟨nd, rfl⟩⟩; refine ⟨_, rfl, ?_⟩; obtain ⟨Ao47, co47, eo47⟩ := Kd.R_slice HO233.out; subst eo47; obtain ⟨Ao48, co48, eo48⟩ := Kd.R_slice HO237.out; subst eo48) | (go_at_call 19; (with_reducible refine (musterkit_SameCuts.calls k _ _ t230 _ _ t234 true _ ?side1 ?side2 ?side3 ?side4 A35.out).mono ?_); (case side1 => repeat (first | exact (Kd.R_reads' HO233.out).2.2 | (with_reducible refine Kd.C_alloc ?_ _) | (with_reducible refine Kd.C_drewN ?_ _) | (with_reducible refine Kd.C_drew ?_))); (case side2 => exact (Kd.R_reads' HO233.out).2.1); (case side3 => repeat (first | exact (Kd.R_reads' HO237.out).2.2 | (with_reducible refine Kd.C_alloc ?_ _) | (with_reducible refine Kd.C_drewN ?_ _) | (with_reducible refine Kd.C_drew ?_))); (case side4 => exact (Kd.R_reads' HO237.out).2.1); rintro e w' ⟨rfl, ⟨nd, rfl⟩⟩))
                    go_meet
                    case rel => exact ⟨_, (true), (by first | rfl | (simp; done) | (simp [*]; done)), H', ⟨by first | omega | exact Nat.le_refl _⟩, ⟨by (with_reducible repeat (first | apply Kd.R_alloc | apply Kd.R_drewN | apply Kd.R_drew)); exact Kd.R_mono HO213.out (fun _ hk => hk.1.2)⟩, ⟨by (with_reducible repeat (first | apply Kd.R_alloc | apply Kd.R_drewN | apply Kd.R_drew)); exact Kd.R_mono HO233.out (fun _ hk => hk.1.1.1.2)⟩, ⟨by (with_reducible repeat (first | refine blk_drewN ?_ _ | refine blk_drew ?_ | refine blk_alloc ?_ _)); exact BK210.out⟩, ⟨by repeat (first | (with_reducible first | exact HB.out | apply below_alloc | apply pw_below_drewN | apply below_drew1 | refine below_set ?_ GE210.out) | exact HB.out)⟩⟩
                · replace c36 := Bool.eq_false_iff.mpr c36
                  subst c36
                  have H1 : (musterlaw11_StepsTells.j0 k l0 t211 t230 true) = some r := by rw [if_neg (show ¬ (false = true) by decide)] at H; exact H
                  clear H
                  have H := H1
                  clear H1
                  have H' := Aside0.mk H
                  clear H
                  obtain ⟨Ao49, co49, eo49⟩ := Kd.R_slice HO217.out
                  subst eo49
                  obtain ⟨Ao50, co50, eo50⟩ := Kd.R_slice HO221.out
                  subst eo50
                  go_wp2_with (first | ((with_reducible refine gate_callee (f := 19) rfl ?_); refine goesL_ (some 93) rfl rfl Try.func19 (by kernel_rfl) rfl #[.slice Ao49 t214.length co49, .slice Ao50 t218.length co50] rfl (by (try simp only [List.map_toArray, List.map_cons, List.map_nil]); first | done | rfl | (simp only [List.length_drop, List.length_take]; rfl)) ?_; (with_reducible refine (musterkit_SameCuts.calls k _ _ t214 _ _ t218 true _ ?side1 ?side2 ?side3 ?side4 A28.out).mono ?_); (case side1 => repeat (first | exact (Kd.R_reads' HO217.out).2.2 | (with_reducible refine Kd.C_alloc ?_ _) | (with_reducible refine Kd.C_drewN ?_ _) | (with_reducible refine Kd.C_drew ?_))); (case side2 => exact (Kd.R_reads' HO217.out).2.1); (case side3 => repeat (first | exact (Kd.R_reads' HO221.out).2.2 | (with_reducible refine Kd.C_alloc ?_ _) | (with_reducible refine Kd.C_drewN ?_ _) | (with_reducible refine Kd.C_drew ?_))); (case side4 => exact (Kd.R_reads' HO221.out).2.1); rintro e w' ⟨rfl, ⟨nd, rfl⟩⟩; refine ⟨_, rfl, ?_⟩; obtain ⟨Ao51, co51, eo51⟩ := Kd.R_slice HO233.out; subst eo51; obtain ⟨Ao52, co52, eo52⟩ := Kd.R_slice HO237.out; subst eo52) | (go_at_call 19; (with_reducible refine (musterkit_SameCuts.calls k _ _ t230 _ _ t234 false _ ?side1 ?side2 ?side3 ?side4 A35.out).mono ?_); (case side1 => repeat (first | exact (Kd.R_reads' HO233.out).2.2 | (with_reducible refine Kd.C_alloc ?_ _) | (with_reducible refine Kd.C_drewN ?_ _) | (with_reducible refine Kd.C_drew ?_))); (case side2 => exact (Kd.R_reads' HO233.out).2.1); (case side3 => repeat (first | exact (Kd.R_reads' HO237.out).2.2 | (with_reducible refine Kd.C_alloc ?_ _) | (with_reducible refine Kd.C_drewN ?_ _) | (with_reducible refine Kd.C_drew ?_))); (case side4 => exact (Kd.R_reads' HO237.out).2.1); rintro e w' ⟨rfl, ⟨nd, rfl⟩⟩))
                  go_meet
                  case rel => exact ⟨_, (true), (by first | rfl | (simp; done) | (simp [*]; done)), H', ⟨by first | omega | exact Nat.le_refl _⟩, ⟨by (with_reducible repeat (first | apply Kd.R_alloc | apply Kd.R_drewN | apply Kd.R_drew)); exact Kd.R_mono HO213.out (fun _ hk => hk.1.2)⟩, ⟨by (with_reducible repeat (first | apply Kd.R_alloc | apply Kd.R_drewN | apply Kd.R_drew)); exact Kd.R_mono HO233.out (fun _ hk => hk.1.1.1.2)⟩, ⟨by (with_reducible repeat (first | refine blk_drewN ?_ _ | refine blk_drew ?_ | refine blk_alloc ?_ _)); exact BK210.out⟩, ⟨by repeat (first | (with_reducible first | exact HB.out | apply below_alloc | apply pw_below_drewN | apply below_drew1 | refine below_set ?_ GE210.out) | exact HB.out)⟩⟩
              · rw [if_neg c34] at H
                have c34b0 : (t227 == t229) = false := beq_eq_false_iff_ne.mpr c34
                have c34b1 : (t227 != t229) = true := bne_iff_ne.mpr c34
                have H' := Aside0.mk H
                clear H
                obtain ⟨Ao53, co53, eo53⟩ := Kd.R_slice HO217.out
                subst eo53
                obtain ⟨Ao54, co54, eo54⟩ := Kd.R_slice HO221.out
                subst eo54
                go_wp2_with (first | ((with_reducible refine gate_callee (f := 19) rfl ?_); refine goesL_ (some 93) rfl rfl Try.func19 (by kernel_rfl) rfl #[.slice Ao53 t214.length co53, .slice Ao54 t218.length co54] rfl (by (try simp only [List.map_toArray, List.map_cons, List.map_nil]); first | done | rfl | (simp only [List.length_drop, List.length_take]; rfl)) ?_; (with_reducible refine (musterkit_SameCuts.calls k _ _ t214 _ _ t218 true _ ?side1 ?side2 ?side3 ?side4 A28.out).mono ?_); (case side1 => repeat (first | exact (Kd.R_reads' HO217.out).2.2 | (with_reducible refine Kd.C_alloc ?_ _) | (with_reducible refine Kd.C_drewN ?_ _) | (with_reducible refine Kd.C_drew ?_))); (case side2 => exact (Kd.R_reads' HO217.out).2.1); (case side3 => repeat (first | exact (Kd.R_reads' HO221.out).2.2 | (with_reducible refine Kd.C_alloc ?_ _) | (with_reducible refine Kd.C_drewN ?_ _) | (with_reducible refine Kd.C_drew ?_))); (case side4 => exact (Kd.R_reads' HO221.out).2.1); rintro e w' ⟨rfl, ⟨nd, rfl⟩⟩; refine ⟨_, rfl, ?_⟩))
                go_meet
                case rel => exact ⟨_, (true), (by first | rfl | (simp; done) | (simp [*]; done)), H', ⟨by first | omega | exact Nat.le_refl _⟩, ⟨by (with_reducible repeat (first | apply Kd.R_alloc | apply Kd.R_drewN | apply Kd.R_drew)); exact Kd.R_mono HO213.out (fun _ hk => hk.1.2)⟩, ⟨by (with_reducible repeat (first | apply Kd.R_alloc | apply Kd.R_drewN | apply Kd.R_drew)); exact Kd.R_mono HO233.out (fun _ hk => hk.1.1.1.2)⟩, ⟨by (with_reducible repeat (first | refine blk_drewN ?_ _ | refine blk_drew ?_ | refine blk_alloc ?_ _)); exact BK210.out⟩, ⟨by repeat (first | (with_reducible first | exact HB.out | apply below_alloc | apply pw_below_drewN | apply below_drew1 | refine below_set ?_ GE210.out) | exact HB.out)⟩⟩
            · rw [if_neg c33] at H
              have c33b0 : (t226 == t228) = false := beq_eq_false_iff_ne.mpr c33
              have c33b1 : (t226 != t228) = true := bne_iff_ne.mpr c33
              have H' := Aside0.mk H
              clear H
              obtain ⟨Ao55, co55, eo55⟩ := Kd.R_slice HO217.out
              subst eo55
              obtain ⟨Ao56, co56, eo56⟩ := Kd.R_slice HO221.out
              subst eo56
              go_wp2_with (first | ((with_reducible refine gate_callee (f := 19) rfl ?_); refine goesL_ (some 93) rfl rfl Try.func19 (by kernel_rfl) rfl #[.slice Ao55 t214.length co55, .slice Ao56 t218.length co56] rfl (by (try simp only [List.map_toArray, List.map_cons, List.map_nil]); first | done | rfl | (simp only [List.length_drop, List.length_take]; rfl)) ?_; (with_reducible refine (musterkit_SameCuts.calls k _ _ t214 _ _ t218 true _ ?side1 ?side2 ?side3 ?side4 A28.out).mono ?_); (case side1 => repeat (first | exact (Kd.R_reads' HO217.out).2.2 | (with_reducible refine Kd.C_alloc ?_ _) | (with_reducible refine Kd.C_drewN ?_ _) | (with_reducible refine Kd.C_drew ?_))); (case side2 => exact (Kd.R_reads' HO217.out).2.1); (case side3 => repeat (first | exact (Kd.R_reads' HO221.out).2.2 | (with_reducible refine Kd.C_alloc ?_ _) | (with_reducible refine Kd.C_drewN ?_ _) | (with_reducible refine Kd.C_drew ?_))); (case side4 => exact (Kd.R_reads' HO221.out).2.1); rintro e w' ⟨rfl, ⟨nd, rfl⟩⟩; refine ⟨_, rfl, ?_⟩))
              go_meet
              case rel => exact ⟨_, (true), (by first | rfl | (simp; done) | (simp [*]; done)), H', ⟨by first | omega | exact Nat.le_refl _⟩, ⟨by (with_reducible repeat (first | apply Kd.R_alloc | apply Kd.R_drewN | apply Kd.R_drew)); exact Kd.R_mono HO213.out (fun _ hk => hk.1.2)⟩, ⟨by (with_reducible repeat (first | apply Kd.R_alloc | apply Kd.R_drewN | apply Kd.R_drew)); exact Kd.R_mono HO233.out (fun _ hk => hk.1.1.1.2)⟩, ⟨by (with_reducible repeat (first | refine blk_drewN ?_ _ | refine blk_drew ?_ | refine blk_alloc ?_ _)); exact BK210.out⟩, ⟨by repeat (first | (with_reducible first | exact HB.out | apply below_alloc | apply pw_below_drewN | apply below_drew1 | refine below_set ?_ GE210.out) | exact HB.out)⟩⟩
          · rw [if_neg c32] at H
            have c32b0 : (t223 == t225) = false := beq_eq_false_iff_ne.mpr c32
            have c32b1 : (t223 != t225) = true := bne_iff_ne.mpr c32
            have H' := Aside0.mk H
            clear H
            obtain ⟨Ao57, co57, eo57⟩ := Kd.R_slice HO217.out
            subst eo57
            obtain ⟨Ao58, co58, eo58⟩ := Kd.R_slice HO221.out
            subst eo58
            go_wp2_with (first | ((with_reducible refine gate_callee (f := 19) rfl ?_); refine goesL_ (some 93) rfl rfl Try.func19 (by kernel_rfl) rfl #[.slice Ao57 t214.length co57, .slice Ao58 t218.length co58] rfl (by (try simp only [List.map_toArray, List.map_cons, List.map_nil]); first | done | rfl | (simp only [List.length_drop, List.length_take]; rfl)) ?_; (with_reducible refine (musterkit_SameCuts.calls k _ _ t214 _ _ t218 true _ ?side1 ?side2 ?side3 ?side4 A28.out).mono ?_); (case side1 => repeat (first | exact (Kd.R_reads' HO217.out).2.2 | (with_reducible refine Kd.C_alloc ?_ _) | (with_reducible refine Kd.C_drewN ?_ _) | (with_reducible refine Kd.C_drew ?_))); (case side2 => exact (Kd.R_reads' HO217.out).2.1); (case side3 => repeat (first | exact (Kd.R_reads' HO221.out).2.2 | (with_reducible refine Kd.C_alloc ?_ _) | (with_reducible refine Kd.C_drewN ?_ _) | (with_reducible refine Kd.C_drew ?_))); (case side4 => exact (Kd.R_reads' HO221.out).2.1); rintro e w' ⟨rfl, ⟨nd, rfl⟩⟩; refine ⟨_, rfl, ?_⟩))
            go_meet
            case rel => exact ⟨_, (true), (by first | rfl | (simp; done) | (simp [*]; done)), H', ⟨by first | omega | exact Nat.le_refl _⟩, ⟨by (with_reducible repeat (first | apply Kd.R_alloc | apply Kd.R_drewN | apply Kd.R_drew)); exact Kd.R_mono HO213.out (fun _ hk => hk.1.2)⟩, ⟨by (with_reducible repeat (first | apply Kd.R_alloc | apply Kd.R_drewN | apply Kd.R_drew)); exact Kd.R_mono HO233.out (fun _ hk => hk.1.1.1.2)⟩, ⟨by (with_reducible repeat (first | refine blk_drewN ?_ _ | refine blk_drew ?_ | refine blk_alloc ?_ _)); exact BK210.out⟩, ⟨by repeat (first | (with_reducible first | exact HB.out | apply below_alloc | apply pw_below_drewN | apply below_drew1 | refine below_set ?_ GE210.out) | exact HB.out)⟩⟩
        · rw [if_neg c31] at H
          have c31b0 : (t222 == t224) = false := beq_eq_false_iff_ne.mpr c31
          have c31b1 : (t222 != t224) = true := bne_iff_ne.mpr c31
          have H' := Aside0.mk H
          clear H
          obtain ⟨Ao59, co59, eo59⟩ := Kd.R_slice HO217.out
          subst eo59
          obtain ⟨Ao60, co60, eo60⟩ := Kd.R_slice HO221.out
          subst eo60
          go_wp2_with (first | ((with_reducible refine gate_callee (f := 19) rfl ?_); refine goesL_ (some 93) rfl rfl Try.func19 (by kernel_rfl) rfl #[.slice Ao59 t214.length co59, .slice Ao60 t218.length co60] rfl (by (try simp only [List.map_toArray, List.map_cons, List.map_nil]); first | done | rfl | (simp only [List.length_drop, List.length_take]; rfl)) ?_; (with_reducible refine (musterkit_SameCuts.calls k _ _ t214 _ _ t218 true _ ?side1 ?side2 ?side3 ?side4 A28.out).mono ?_); (case side1 => repeat (first | exact (Kd.R_reads' HO217.out).2.2 | (with_reducible refine Kd.C_alloc ?_ _) | (with_reducible refine Kd.C_drewN ?_ _) | (with_reducible refine Kd.C_drew ?_))); (case side2 => exact (Kd.R_reads' HO217.out).2.1); (case side3 => repeat (first | exact (Kd.R_reads' HO221.out).2.2 | (with_reducible refine Kd.C_alloc ?_ _) | (with_reducible refine Kd.C_drewN ?_ _) | (with_reducible refine Kd.C_drew ?_))); (case side4 => exact (Kd.R_reads' HO221.out).2.1); rintro e w' ⟨rfl, ⟨nd, rfl⟩⟩; refine ⟨_, rfl, ?_⟩))
          go_meet
          case rel => exact ⟨_, (true), (by first | rfl | (simp; done) | (simp [*]; done)), H', ⟨by first | omega | exact Nat.le_refl _⟩, ⟨by (with_reducible repeat (first | apply Kd.R_alloc | apply Kd.R_drewN | apply Kd.R_drew)); exact Kd.R_mono HO213.out (fun _ hk => hk.1.2)⟩, ⟨by (with_reducible repeat (first | apply Kd.R_alloc | apply Kd.R_drewN | apply Kd.R_drew)); exact Kd.R_mono HO233.out (fun _ hk => hk.1.1.1.2)⟩, ⟨by (with_reducible repeat (first | refine blk_drewN ?_ _ | refine blk_drew ?_ | refine blk_alloc ?_ _)); exact BK210.out⟩, ⟨by repeat (first | (with_reducible first | exact HB.out | apply below_alloc | apply pw_below_drewN | apply below_drew1 | refine below_set ?_ GE210.out) | exact HB.out)⟩⟩
      · rw [if_neg c30] at H
        have c30b0 : (t215 == t219) = false := beq_eq_false_iff_ne.mpr c30
        have c30b1 : (t215 != t219) = true := bne_iff_ne.mpr c30
        (first | rw [c30b0] | (simp only [i64_w, i32_w]; rw [c30b0]) | skip)
        have H' := Aside0.mk H
        clear H
        obtain ⟨Ao61, co61, eo61⟩ := Kd.R_slice HO217.out
        subst eo61
        obtain ⟨Ao62, co62, eo62⟩ := Kd.R_slice HO221.out
        subst eo62
        go_wp2_with (first | ((with_reducible refine gate_callee (f := 19) rfl ?_); refine goesL_ (some 93) rfl rfl Try.func19 (by kernel_rfl) rfl #[.slice Ao61 t214.length co61, .slice Ao62 t218.length co62] rfl (by (try simp only [List.map_toArray, List.map_cons, List.map_nil]); first | done | rfl | (simp only [List.length_drop, List.length_take]; rfl)) ?_; (with_reducible refine (musterkit_SameCuts.calls k _ _ t214 _ _ t218 true _ ?side1 ?side2 ?side3 ?side4 A28.out).mono ?_); (case side1 => repeat (first | exact (Kd.R_reads' HO217.out).2.2 | (with_reducible refine Kd.C_alloc ?_ _) | (with_reducible refine Kd.C_drewN ?_ _) | (with_reducible refine Kd.C_drew ?_))); (case side2 => exact (Kd.R_reads' HO217.out).2.1); (case side3 => repeat (first | exact (Kd.R_reads' HO221.out).2.2 | (with_reducible refine Kd.C_alloc ?_ _) | (with_reducible refine Kd.C_drewN ?_ _) | (with_reducible refine Kd.C_drew ?_))); (case side4 => exact (Kd.R_reads' HO221.out).2.1); rintro e w' ⟨rfl, ⟨nd, rfl⟩⟩; refine ⟨_, rfl, ?_⟩))
        go_meet
        case rel => exact ⟨_, (true), (by first | rfl | (simp; done) | (simp [*]; done)), H', ⟨by first | omega | exact Nat.le_refl _⟩, ⟨by (with_reducible repeat (first | apply Kd.R_alloc | apply Kd.R_drewN | apply Kd.R_drew)); exact Kd.R_mono HO213.out (fun _ hk => hk.1.2)⟩, ⟨by (with_reducible repeat (first | apply Kd.R_alloc | apply Kd.R_drewN | apply Kd.R_drew)); exact Kd.R_mono HO233.out (fun _ hk => hk.1.1.1.2)⟩, ⟨by (with_reducible repeat (first | refine blk_drewN ?_ _ | refine blk_drew ?_ | refine blk_alloc ?_ _)); exact BK210.out⟩, ⟨by repeat (first | (with_reducible first | exact HB.out | apply below_alloc | apply pw_below_drewN | apply below_drew1 | refine below_set ?_ GE210.out) | exact HB.out)⟩⟩
    · replace c29 := Bool.eq_false_iff.mpr c29
      subst c29
      have H1 : (musterlaw11_StepsTells.j0 k l0 t211 t230 true) = some r := by rw [if_neg (show ¬ (false = true) by decide)] at H; exact H
      clear H
      have H := H1
      clear H1
      have H' := Aside0.mk H
      clear H
      obtain ⟨Ao63, co63, eo63⟩ := Kd.R_slice HO217.out
      subst eo63
      obtain ⟨Ao64, co64, eo64⟩ := Kd.R_slice HO221.out
      subst eo64
      go_wp2_with (first | ((with_reducible refine gate_callee (f := 19) rfl ?_); refine goesL_ (some 93) rfl rfl Try.func19 (by kernel_rfl) rfl #[.slice Ao63 t214.length co63, .slice Ao64 t218.length co64] rfl (by (try simp only [List.map_toArray, List.map_cons, List.map_nil]); first | done | rfl | (simp only [List.length_drop, List.length_take]; rfl)) ?_; (with_reducible refine (musterkit_SameCuts.calls k _ _ t214 _ _ t218 false _ ?side1 ?side2 ?side3 ?side4 A28.out).mono ?_); (case side1 => repeat (first | exact (Kd.R_reads' HO217.out).2.2 | (with_reducible refine Kd.C_alloc ?_ _) | (with_reducible refine Kd.C_drewN ?_ _) | (with_reducible refine Kd.C_drew ?_))); (case side2 => exact (Kd.R_reads' HO217.out).2.1); (case side3 => repeat (first | exact (Kd.R_reads' HO221.out).2.2 | (with_reducible refine Kd.C_alloc ?_ _) | (with_reducible refine Kd.C_drewN ?_ _) | (with_reducible refine Kd.C_drew ?_))); (case side4 => exact (Kd.R_reads' HO221.out).2.1); rintro e w' ⟨rfl, ⟨nd, rfl⟩⟩; refine ⟨_, rfl, ?_⟩))
      go_meet
      case rel => exact ⟨_, (true), (by first | rfl | (simp; done) | (simp [*]; done)), H', ⟨by first | omega | exact Nat.le_refl _⟩, ⟨by (with_reducible repeat (first | apply Kd.R_alloc | apply Kd.R_drewN | apply Kd.R_drew)); exact Kd.R_mono HO213.out (fun _ hk => hk.1.2)⟩, ⟨by (with_reducible repeat (first | apply Kd.R_alloc | apply Kd.R_drewN | apply Kd.R_drew)); exact Kd.R_mono HO233.out (fun _ hk => hk.1.1.1.2)⟩, ⟨by (with_reducible repeat (first | refine blk_drewN ?_ _ | refine blk_drew ?_ | refine blk_alloc ?_ _)); exact BK210.out⟩, ⟨by repeat (first | (with_reducible first | exact HB.out | apply below_alloc | apply pw_below_drewN | apply below_drew1 | refine below_set ?_ GE210.out) | exact HB.out)⟩⟩
  case rest =>
    clear HC12
    try clear c1
    try clear c2
    try clear p2
    try clear c3
    try clear c5
    try clear c8
    try clear c11
    try clear c12
    try clear c13
    try clear c14
    try clear c15
    try clear c16
    try clear c17
    try clear c18
    try clear c19
    try clear c29
    try clear c30
    try clear c30b0
    try clear c30b1
    try clear c31
    try clear c31b0
    try clear c31b1
    try clear c32
    try clear c32b0
    try clear c32b1
    try clear c33
    try clear c33b0
    try clear c33b1
    try clear c34
    try clear c34b0
    try clear c34b1
    try clear c36
    try clear c37
    try clear c37b0
    try clear c37b1
    try clear hcz15_0
    try clear hcz15_1
    try clear hcz15_2
    try clear hcz17_0
    try clear hcz17_1
    try clear hcz17_2
    try clear hcz19_0
    try clear hcz19_1
    try clear hcz19_2
    try clear hcz22_0
    try clear hcz22_1
    try clear hcz22_2
    try clear hcz24_0
    try clear hcz24_1
    try clear hcz24_2
    try clear hcz26_0
    try clear hcz26_1
    try clear hcz26_2
    try clear hfz15_0
    try clear hfz15_1
    try clear hfz15_2
    try clear hfz17_0
    try clear hfz17_1
    try clear hfz17_2
    try clear hfz19_0
    try clear hfz19_1
    try clear hfz19_2
    try clear hfz22_0
    try clear hfz22_1
    try clear hfz22_2
    try clear hfz24_0
    try clear hfz24_1
    try clear hfz24_2
    try clear hfz26_0
    try clear hfz26_1
    try clear hfz26_2
    obtain ⟨kq, x137_11, rfl, HA, HJ11, HO_5, HO_18, BK210, HB⟩ := hcut
    cases kq with
    | zero => exact absurd HA.out (by simp [musterlaw11_StepsTells.j0])
    | succ kj11 =>
      have H := HA.out
      clear HA
      simp only [musterlaw11_StepsTells.j0] at H
      by_cases c65 : x137_11 = true
      · subst c65
        have H1 : (some false) = some r := by rw [if_pos rfl] at H; exact H
        clear H
        have H := H1
        clear H1
        obtain rfl := Option.some.inj H
        go_wp2
        go_ret
        exact ⟨by first | rfl | (simp [errW_none, errW_some] <;> rfl) | (simp [*, errW_none, errW_some] <;> rfl), by repeat (first | (with_reducible first | exact HB.out | apply below_alloc | apply pw_below_drewN | apply below_drew1 | refine below_set ?_ GE210.out) | exact HB.out)⟩
      · replace c65 := Bool.eq_false_iff.mpr c65
        subst c65
        have H1 : (musterlaw11_StepsTells.l0 kj11 l0 t211 t230 0) = some r := by rw [if_neg (show ¬ (false = true) by decide)] at H; exact H
        clear H
        have H := H1
        clear H1
        have H' := Aside0.mk H
        clear H
        go_wp2
        go_loopg [22] kj11 (fun kq v22 w' => ∃ (x18_2 : List (S34)) (x22_2 : Int), v22 = .int .i64 x22_2 ∧ Aside0 (musterlaw11_StepsTells.l0 kq l0 t211 x18_2 x22_2 = some r) ∧ Aside0 (kq ≤ kj11) ∧ Aside0 (Kd.R k34 34 w' w.heap.size (fun k_ => some k_ ≠ (v232 : Value).ownBlock) (.slice Ao20 t211.length co20) t211) ∧ Aside0 (Kd.R k34 34 w' w.heap.size (fun k_ => some k_ ≠ ((.slice Ao20 t211.length co20) : Value).ownBlock) v232 x18_2) ∧ Aside0 (w'.heap[gb210]? = some (.cells #[.int .i64 a1_0, .int .i64 a1_1, .int .i64 a1_2] 24 (0, 0))) ∧ Aside0 (Below w.heap.size w w'))
        case atStart => exact ⟨(t230), (0), (by first | rfl | (simp; done) | (simp [*]; done)), H', ⟨Nat.le_refl _⟩, ⟨by (with_reducible repeat (first | apply Kd.R_alloc | apply Kd.R_drewN | apply Kd.R_drew)); exact HO_5.out⟩, ⟨by (with_reducible repeat (first | apply Kd.R_alloc | apply Kd.R_drewN | apply Kd.R_drew)); exact HO_18.out⟩, ⟨by (with_reducible repeat (first | refine blk_drewN ?_ _ | refine blk_drew ?_ | refine blk_alloc ?_ _)); exact BK210.out⟩, ⟨by repeat (first | (with_reducible first | exact HB.out | apply below_alloc | apply pw_below_drewN | apply below_drew1 | refine below_set ?_ GE210.out) | exact HB.out)⟩⟩
        case round =>
          clear H'
          try clear c1
          try clear c2
          try clear p2
          try clear c3
          try clear c5
          try clear c6
          try clear c8
          try clear c11
          try clear c12
          try clear c13
          try clear c14
          try clear c15
          try clear c16
          try clear c17
          try clear c18
          try clear c19
          try clear c29
          try clear c30
          try clear c30b0
          try clear c30b1
          try clear c31
          try clear c31b0
          try clear c31b1
          try clear c32
          try clear c32b0
          try clear c32b1
          try clear c33
          try clear c33b0
          try clear c33b1
          try clear c34
          try clear c34b0
          try clear c34b1
          try clear c36
          try clear c37
          try clear c37b0
          try clear c37b1
          try clear c65
          try clear hcz15_0
          try clear hcz15_1
          try clear hcz15_2
          try clear hcz17_0
          try clear hcz17_1
          try clear hcz17_2
          try clear hcz19_0
          try clear hcz19_1
          try clear hcz19_2
          try clear hcz22_0
          try clear hcz22_1
          try clear hcz22_2
          try clear hcz24_0
          try clear hcz24_1
          try clear hcz24_2
          try clear hcz26_0
          try clear hcz26_1
          try clear hcz26_2
          try clear hfz15_0
          try clear hfz15_1
          try clear hfz15_2
          try clear hfz17_0
          try clear hfz17_1
          try clear hfz17_2
          try clear hfz19_0
          try clear hfz19_1
          try clear hfz19_2
          try clear hfz22_0
          try clear hfz22_1
          try clear hfz22_2
          try clear hfz24_0
          try clear hfz24_1
          try clear hfz24_2
          try clear hfz26_0
          try clear hfz26_1
          try clear hfz26_2
          try clear p2
          obtain ⟨x18_2, x22_2, rfl, HA, HK2, HO_5, HO_18, BK210, HB⟩ := hrel
          cases gk with
          | zero => exact absurd HA.out (by simp [musterlaw11_StepsTells.l0])
          | succ k2 =>
            have H := HA.out
            clear HA
            simp only [musterlaw11_StepsTells.l0] at H
            by_cases c66 : x22_2 < (x18_2.length : Int)
            · rw [if_pos c66] at H
              have c66b0 : decide (x22_2 < (x18_2.length : Int)) = true := decide_eq_true c66
              clear c66
              by_cases c67 : 0 ≤ x22_2
              · rw [if_pos c67] at H
                have c67b0 : decide (0 ≤ x22_2) = true := decide_eq_true c67
                clear c67
                obtain ⟨y242, hy242⟩ : ∃ y_ : List (S34), y_ = (x18_2.set (x22_2 : Int).toNat (⟨(rd_T34 x18_2 x22_2).f0, 77⟩ : S34)) := ⟨_, rfl⟩
                replace H : (musterlaw11_StepsTells.l0 k2 l0 t211 y242 (wrap64 (x22_2 + 1))) = some r := by first | (rw [hy242]; with_reducible exact H) | (have H2_ := (Option.bind_some _ _).symm.trans H; rw [hy242]; with_reducible exact H2_) | (have H2_ := (Option.bind_some _ _).symm.trans H; with_reducible exact H2_) | with_reducible exact H | (rw [hy242]; exact H) | exact H
                have Ny242 := Aside0.mk hy242
                clear hy242
                have H' := Aside0.mk H
                clear H
                obtain ⟨Ao69, co69, eo69⟩ := Kd.R_slice HO_18.out
                subst eo69
                have p68 : 0 ≤ (x22_2 : Int) := of_decide_eq_true (by first | (with_reducible assumption) | assumption)
                have q68 : (x22_2 : Int) < ((x18_2.length : Int) : Int) := of_decide_eq_true (by first | (with_reducible assumption) | assumption)
                obtain ⟨go68, co68, eo68, gb68, gl68, cl68, HG68⟩ := Kd.R_form HO_18.out (by omega)
                (first | cases eo68 | (injection eo68 with ea_ en_ ec_; (first | subst ea_ | (injection ea_ with ea_; subst ea_)); subst ec_; clear en_))
                have GB68 := Aside0.mk gb68
                have GG68 := Aside0.mk HG68
                clear gb68 gl68 HG68
                obtain ⟨ce68, hcl68, hM68, hcc68, hfr68⟩ := Kd.R_elem HO_18.out z34 (x22_2 : Int) p68 q68
                obtain rfl := k34_openM hM68
                have hx68_0 : wr.cell? ⟨go68, (x22_2 : Int).toNat * 2, none⟩ = some (.int .i64 ((rd_T34 x18_2 x22_2).f0)) := hcc68 0 _ rfl
                have hx68_1 : wr.cell? ⟨go68, (x22_2 : Int).toNat * 2 + 1, none⟩ = some (.int .i64 ((rd_T34 x18_2 x22_2).f1)) := hcc68 1 _ rfl
                have hf68_0 : wr.frozen? ⟨go68, (x22_2 : Int).toNat * 2, none⟩ = false := hfr68 0
                have hf68_1 : wr.frozen? ⟨go68, (x22_2 : Int).toNat * 2 + 1, none⟩ = false := hfr68 1
                clear hcl68 hcc68 hfr68 hM68
                replace p68 := eq_true p68
                replace q68 := eq_true q68
                have HX70 := Aside0.mk (show Kd.R k34 34 wr w.heap.size (fun k_ => some k_ ≠ (.slice Ao20 t211.length co20 : Value).ownBlock) (.slice (some ⟨go68, 0, none⟩) x18_2.length co69) x18_2 from (by (with_reducible repeat (first | apply Kd.R_alloc | apply Kd.R_drewN | apply Kd.R_drew)); exact HO_18.out))
                obtain ⟨ce70, hcl70, hM70, hcc70, hfr70⟩ := Kd.R_elem HX70.out z34 (x22_2 : Int) (of_decide_eq_true (by first | (with_reducible assumption) | assumption)) (by have h_ : (x22_2 : Int) < ((x18_2.length : Int) : Int) := of_decide_eq_true (by first | (with_reducible assumption) | assumption); first | exact h_ | (have e_ := (Kd.R_reads' HO_18.out).1; omega) | simpa using h_)
                obtain rfl := k34_openM hM70
                have HP70 := Kd.R_seg HX70.out (x22_2 : Int) (of_decide_eq_true (by first | (with_reducible assumption) | assumption)) (by have h_ : (x22_2 : Int) < ((x18_2.length : Int) : Int) := of_decide_eq_true (by first | (with_reducible assumption) | assumption); first | exact h_ | (have e_ := (Kd.R_reads' HO_18.out).1; omega) | simpa using h_) (seg := [.int .i64 77]) (j := 1) hcl70 hcc70 (show 2 ≤ 2 from by decide) (x' := (⟨(rd_T34 x18_2 x22_2).f0, 77⟩ : S34)) (k34_mkM _ _ _ (⟨(rd_T34 x18_2 x22_2).f0, 77⟩ : S34) ) (fun _ hk => hk)
                have hx70_1 := hcc70 1 _ rfl
                (try simp only [show (k34).sz = 2 from rfl, Nat.mul_one, Nat.add_zero] at hx70_1)
                have hf70_1 := hfr70 1
                (try simp only [show (k34).sz = 2 from rfl, Nat.mul_one, Nat.add_zero] at hf70_1)
                clear hcl70 hcc70 hfr70 hM70
                go_wp2_with (first | ((with_reducible refine gate_store (t := 3) (p := 147) rfl ?_); refine store_event (t := 3) (p := 147) (v := ?vo_w71) (w1 := (wr.setCell ⟨go68, (x22_2 : Int).toNat * 2 + 1, none⟩ (.int .i64 77))) ?hg ?ho ?hn ?hr ?_; (case ho => rfl); (case hg => rfl); (case hn => rfl); (case hr => first | (go_simp; done) | (go_simp; rfl)); intro w71 hw; have hg : wr.grownBy w71 (some go68) := (by rw [hw]; exact HP70.2); have hp_ : Kd.R k34 34 w71 w.heap.size (fun k_ => some k_ ≠ (.slice Ao20 t211.length co20 : Value).ownBlock) (.slice (some ⟨go68, 0, none⟩) x18_2.length co69) y242 := (by rw [hw, Ny242.out]; exact HP70.1); clear HP70; have n0_ := Aside0.mk (Kd.R_after (v := (.slice (some ⟨go68, 0, none⟩) x18_2.length co69)) (v1 := (.slice (some ⟨go68, 0, none⟩) x18_2.length co69)) (ok := (fun _ => True)) (by (with_reducible repeat (first | apply Kd.R_alloc | apply Kd.R_drewN | apply Kd.R_drew)); exact Kd.R_mono HO_5.out (fun _ hk => ⟨trivial, hk⟩)) hg (.inl rfl)); have n1_ := Aside0.mk (hp_); have n2_ := Aside0.mk (blk_grown (g := gb210) (o := .cells #[.int .i64 a1_0, .int .i64 a1_1, .int .i64 a1_2] 24 (0, 0)) (by (with_reducible repeat (first | refine blk_drewN ?_ _ | refine blk_drew ?_ | refine blk_alloc ?_ _)); exact BK210.out) hg (Kd.R_ne HO_18.out BK210.out (by decide))); have n3_ := Aside0.mk ((by rw [hw]; exact below_set (HB.out) GB68.out : Below w.heap.size w w71)); clear HO_5; clear HO_18; clear BK210; clear HB; have HO_5 := n0_; have HO_18 := n1_; have BK210 := n2_; have HB := n3_; clear n0_ n1_ n2_ n3_; clear hg hw hp_))
                go_roundg k2
                case measure => have := HJ11.out; have := HK2.out; omega
                case rel => exact ⟨(y242), (wrap64 (x22_2 + 1)), (by first | rfl | (simp; done) | (simp [*]; done)), H', ⟨by have := HJ11.out; have := HK2.out; omega⟩, ⟨by (with_reducible repeat (first | apply Kd.R_alloc | apply Kd.R_drewN | apply Kd.R_drew)); exact Kd.R_mono HO_5.out (fun _ hk => hk.2)⟩, ⟨by (with_reducible repeat (first | apply Kd.R_alloc | apply Kd.R_drewN | apply Kd.R_drew)); exact HO_18.out⟩, ⟨by (with_reducible repeat (first | refine blk_drewN ?_ _ | refine blk_drew ?_ | refine blk_alloc ?_ _)); exact BK210.out⟩, ⟨by repeat (first | (with_reducible first | exact HB.out | apply below_alloc | apply pw_below_drewN | apply below_drew1 | refine below_set ?_ GE210.out) | exact HB.out)⟩⟩
              · rw [if_neg c67] at H
                exact absurd H (by simp)
            · rw [if_neg c66] at H
              have c66b0 : decide (x22_2 < (x18_2.length : Int)) = false := decide_eq_false c66
              clear c66
              replace H := Option.bind_eq_some_iff.mp H
              obtain ⟨t243, A720, H⟩ := H
              replace H : (if t243 = true then ((musterlaw11_awake.f k2).bind fun t244 => (some t244)) else (some false)) = some r := H
              have A72 := Aside0.mk A720
              clear A720
              by_cases c73 : t243 = true
              · subst c73
                have H1 : ((musterlaw11_awake.f k2).bind fun t244 => (some t244)) = some r := by rw [if_pos rfl] at H; exact H
                clear H
                have H := H1
                clear H1
                replace H := Option.bind_eq_some_iff.mp H
                obtain ⟨t244, A740, H⟩ := H
                replace H : (some t244) = some r := H
                have A74 := Aside0.mk A740
                clear A740
                obtain rfl := Option.some.inj H
                obtain ⟨Ao75, co75, eo75⟩ := Kd.R_slice HO_18.out
                subst eo75
                go_wp2_with (first | ((with_reducible refine gate_callee (f := 19) rfl ?_); refine goesL_ (some 150) rfl rfl Try.func19 (by kernel_rfl) rfl #[.slice Ao20 t211.length co20, .slice A0 l0.length c0] rfl (by (try simp only [List.map_toArray, List.map_cons, List.map_nil]); first | done | rfl | (simp only [List.length_drop, List.length_take]; rfl)) ?_; (with_reducible refine (musterkit_SameCuts.calls k2 _ _ t211 _ _ l0 true _ ?side1 ?side2 ?side3 ?side4 A72.out).mono ?_); (case side1 => repeat (first | exact (Kd.R_reads' HO_5.out).2.2 | (with_reducible refine Kd.C_alloc ?_ _) | (with_reducible refine Kd.C_drewN ?_ _) | (with_reducible refine Kd.C_drew ?_))); (case side2 => exact (Kd.R_reads' HO_5.out).2.1); (case side3 => repeat (first | exact (Kd.C_below HR0.out HB.out) | (with_reducible refine Kd.C_alloc ?_ _) | (with_reducible refine Kd.C_drewN ?_ _) | (with_reducible refine Kd.C_drew ?_))); (case side4 => exact HC0.out); rintro e w' ⟨rfl, ⟨nd, rfl⟩⟩; refine ⟨_, rfl, ?_⟩) | (go_at_call 10; (with_reducible refine (musterlaw11_awake.calls k2  t244 _ A74.out).mono ?_); rintro e w76 ⟨rfl, hb⟩; have n0_ := Aside0.mk (Kd.R_below (by (with_reducible repeat (first | apply Kd.R_alloc | apply Kd.R_drewN | apply Kd.R_drew)); exact HO_5.out) hb); have n1_ := Aside0.mk (Kd.R_below (by (with_reducible repeat (first | apply Kd.R_alloc | apply Kd.R_drewN | apply Kd.R_drew)); exact HO_18.out) hb); have n2_ := Aside0.mk (blk_below (g := gb210) (o := .cells #[.int .i64 a1_0, .int .i64 a1_1, .int .i64 a1_2] 24 (0, 0)) (by (with_reducible repeat (first | refine blk_drewN ?_ _ | refine blk_drew ?_ | refine blk_alloc ?_ _)); exact BK210.out) hb); have n3_ := Aside0.mk (below_step (by repeat (first | (with_reducible first | exact HB.out | apply below_alloc | apply pw_below_drewN | apply below_drew1 | refine below_set ?_ GE210.out) | exact HB.out)) hb); clear HO_5; clear HO_18; clear BK210; clear HB; have HO_5 := n0_; have HO_18 := n1_; have BK210 := n2_; have HB := n3_; clear n0_ n1_ n2_ n3_; (try clear hb); (try clear hb2); (try clear hk); (try clear hi)))
                go_ret
                exact ⟨by first | rfl | (simp [errW_none, errW_some] <;> rfl) | (simp [*, errW_none, errW_some] <;> rfl), by repeat (first | (with_reducible first | exact HB.out | apply below_alloc | apply pw_below_drewN | apply below_drew1 | refine below_set ?_ GE210.out) | exact HB.out)⟩
              · replace c73 := Bool.eq_false_iff.mpr c73
                subst c73
                have H1 : (some false) = some r := by rw [if_neg (show ¬ (false = true) by decide)] at H; exact H
                clear H
                have H := H1
                clear H1
                obtain rfl := Option.some.inj H
                obtain ⟨Ao77, co77, eo77⟩ := Kd.R_slice HO_18.out
                subst eo77
                go_wp2_with (first | ((with_reducible refine gate_callee (f := 19) rfl ?_); refine goesL_ (some 150) rfl rfl Try.func19 (by kernel_rfl) rfl #[.slice Ao20 t211.length co20, .slice A0 l0.length c0] rfl (by (try simp only [List.map_toArray, List.map_cons, List.map_nil]); first | done | rfl | (simp only [List.length_drop, List.length_take]; rfl)) ?_; (with_reducible refine (musterkit_SameCuts.calls k2 _ _ t211 _ _ l0 false _ ?side1 ?side2 ?side3 ?side4 A72.out).mono ?_); (case side1 => repeat (first | exact (Kd.R_reads' HO_5.out).2.2 | (with_reducible refine Kd.C_alloc ?_ _) | (with_reducible refine Kd.C_drewN ?_ _) | (with_reducible refine Kd.C_drew ?_))); (case side2 => exact (Kd.R_reads' HO_5.out).2.1); (case side3 => repeat (first | exact (Kd.C_below HR0.out HB.out) | (with_reducible refine Kd.C_alloc ?_ _) | (with_reducible refine Kd.C_drewN ?_ _) | (with_reducible refine Kd.C_drew ?_))); (case side4 => exact HC0.out); rintro e w' ⟨rfl, ⟨nd, rfl⟩⟩; refine ⟨_, rfl, ?_⟩))
                go_ret
                exact ⟨by first | rfl | (simp [errW_none, errW_some] <;> rfl) | (simp [*, errW_none, errW_some] <;> rfl), by repeat (first | (with_reducible first | exact HB.out | apply below_alloc | apply pw_below_drewN | apply below_drew1 | refine below_set ?_ GE210.out) | exact HB.out)⟩

end Go.Proofs.Yteipoopdnimiaaa.Pr
