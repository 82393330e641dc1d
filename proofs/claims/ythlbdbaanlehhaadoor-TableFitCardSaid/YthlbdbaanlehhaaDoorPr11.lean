-- Written by this session's program wip/tools/pr.py out of the translation (with the kit's print.py). Not trusted: Lean checks it.
import Derived.Test.YthlbdbaanlehhaaDoorPr0
import Derived.Test.YthlbdbaanlehhaaDoorPr5
import Derived.Test.YthlbdbaanlehhaaDoorPr9
import Derived.Test.YthlbdbaanlehhaaDoorPr10
namespace Go.Proofs.YthlbdbaanlehhaaDoor.Pr
open Go.RowKit Go.Proofs.YthlbdbaanlehhaaDoorW.PrintWords Go.Proofs.YthlbdbaanlehhaaDoorW.PrintLast Go.Proofs.YthlbdbaanlehhaaDoorW.PrintMore
attribute [local go_sem] max2_int min2_int max_two min_two max_three min_three max_four min_four   -- for this text's walks alone
set_option linter.unusedVariables false
set_option linter.unusedSimpArgs false

/-! ### musterlaw31_TableFit: function 6 -/
mutual
def musterlaw31_TableFit.j0 : Nat → ByteArray → Int → Bool → ByteArray → Int → Int → Int → Option (Bool)
  | 0, _, _, _, _, _, _, _ => none
  | k + 1, x0, x1, x2, x7, x8, x9, x10 => if x9 = (wrap64 (x1 - x8)) then (if 0 ≤ x10 then (if x10 ≤ (wrap64 (x10 + (x0.size : Int))) then (if (wrap64 (x10 + (x0.size : Int))) ≤ (x7.size : Int) then (musterlaw31_TableFit.j1 k x0 x1 x2 x7 x10 ((x7.extract (x10 : Int).toNat ((wrap64 (x10 + (x0.size : Int))) : Int).toNat).toList != x0.toList)) else (none)) else (none)) else (none)) else (musterlaw31_TableFit.j1 k x0 x1 x2 x7 x10 true)
def musterlaw31_TableFit.j1 : Nat → ByteArray → Int → Bool → ByteArray → Int → Bool → Option (Bool)
  | 0, _, _, _, _, _, _ => none
  | k + 1, x0, x1, x2, x7, x10, x77 => if x77 = true then (some false) else (musterlaw31_TableFit.l0 k x0 x1 x2 x7 x10 0)
def musterlaw31_TableFit.l0 : Nat → ByteArray → Int → Bool → ByteArray → Int → Int → Option (Bool)
  | 0, _, _, _, _, _, _ => none
  | k + 1, x0, x1, x2, x7, x10, x11 => if x11 < (x7.size : Int) then (if x11 < x10 then (if 0 ≤ x11 then (if (bt x7 x11) = 32 then (musterlaw31_TableFit.l0 k x0 x1 x2 x7 x10 (wrap64 (x11 + 1))) else (some false)) else (none)) else (if x11 ≥ (wrap64 (x10 + (x0.size : Int))) then (if 0 ≤ x11 then (if (bt x7 x11) = 32 then (musterlaw31_TableFit.l0 k x0 x1 x2 x7 x10 (wrap64 (x11 + 1))) else (some false)) else (none)) else (musterlaw31_TableFit.l0 k x0 x1 x2 x7 x10 (wrap64 (x11 + 1))))) else ((table_Fit.f x7 x1 (!x2)).bind fun t151 => (if t151.toList = x7.toList then ((musterlaw31_awake.f k).bind fun t152 => (some t152)) else (some false)))
end
def musterlaw31_TableFit.f (k : Nat) (a0 : ByteArray) (a1 : Int) (a2 : Bool) : Option (Bool) := if a1 > 2000 then ((musterlaw31_awake.f k).bind fun t145 => (some t145)) else ((table_Fit.f a0 a1 a2).bind fun t146 => ((table_Width.f a0).bind fun t147 => (if a1 < 1 then (if t146.toList = ([] : List UInt8) then ((musterlaw31_awake.f k).bind fun t148 => (some t148)) else (some false)) else (if t147 > a1 then (if (t146.size : Int) < (a0.size : Int) then (if 0 ≤ (t146.size : Int) then (if (t146.size : Int) ≤ (a0.size : Int) then (if (a0.extract 0 ((t146.size : Int) : Int).toNat).toList = t146.toList then ((table_Width.f t146).bind fun t149 => (if t149 ≤ a1 then ((musterlaw31_awake.f k).bind fun t150 => (some t150)) else (some false))) else (some false)) else (none)) else (none)) else (some false)) else (if a2 = true then (musterlaw31_TableFit.j0 k a0 a1 a2 t146 t147 (wrap64 ((t146.size : Int) - (a0.size : Int))) (wrap64 ((t146.size : Int) - (a0.size : Int)))) else (musterlaw31_TableFit.j0 k a0 a1 a2 t146 t147 (wrap64 ((t146.size : Int) - (a0.size : Int))) 0))))))
theorem musterlaw31_TableFit.mono_l : ∀ k, (∀ y0 y1 y2 y3 y4 y5 y6, LeO (musterlaw31_TableFit.j0 k y0 y1 y2 y3 y4 y5 y6) (musterlaw31_TableFit.j0 (k + 1) y0 y1 y2 y3 y4 y5 y6)) ∧ (∀ y0 y1 y2 y3 y4 y5, LeO (musterlaw31_TableFit.j1 k y0 y1 y2 y3 y4 y5) (musterlaw31_TableFit.j1 (k + 1) y0 y1 y2 y3 y4 y5)) ∧ (∀ y0 y1 y2 y3 y4 y5, LeO (musterlaw31_TableFit.l0 k y0 y1 y2 y3 y4 y5) (musterlaw31_TableFit.l0 (k + 1) y0 y1 y2 y3 y4 y5))
  | 0 => ⟨fun _ _ _ _ _ _ _ r h => by simp [musterlaw31_TableFit.j0] at h, fun _ _ _ _ _ _ r h => by simp [musterlaw31_TableFit.j1] at h, fun _ _ _ _ _ _ r h => by simp [musterlaw31_TableFit.l0] at h⟩
  | k + 1 => by
    obtain ⟨ih0, ih1, ih2⟩ := musterlaw31_TableFit.mono_l k
    refine ⟨?_, ?_, ?_⟩
    · intro y0 y1 y2 y3 y4 y5 y6
      unfold musterlaw31_TableFit.j0
      repeat' first
      | (with_reducible exact ih0 _ _ _ _ _ _ _)
      | (with_reducible exact ih1 _ _ _ _ _ _)
      | (with_reducible exact ih2 _ _ _ _ _ _)
      | (with_reducible exact musterlaw31_awake.mono _)
      | (with_reducible exact LeO.refl _)
      | (with_reducible exact LeO.none _)
      | (with_reducible refine LeO.ite ?_ ?_)
      | (with_reducible refine LeO.bind ?_ (fun _ => ?_))
      | exact ih0 _ _ _ _ _ _ _
      | exact ih1 _ _ _ _ _ _
      | exact ih2 _ _ _ _ _ _
      | exact musterlaw31_awake.mono _
      | exact LeO.none _
      | refine LeO.ite ?_ ?_
      | refine LeO.bind ?_ (fun _ => ?_)
    · intro y0 y1 y2 y3 y4 y5
      unfold musterlaw31_TableFit.j1
      repeat' first
      | (with_reducible exact ih0 _ _ _ _ _ _ _)
      | (with_reducible exact ih1 _ _ _ _ _ _)
      | (with_reducible exact ih2 _ _ _ _ _ _)
      | (with_reducible exact musterlaw31_awake.mono _)
      | (with_reducible exact LeO.refl _)
      | (with_reducible exact LeO.none _)
      | (with_reducible refine LeO.ite ?_ ?_)
      | (with_reducible refine LeO.bind ?_ (fun _ => ?_))
      | exact ih0 _ _ _ _ _ _ _
      | exact ih1 _ _ _ _ _ _
      | exact ih2 _ _ _ _ _ _
      | exact musterlaw31_awake.mono _
      | exact LeO.none _
      | refine LeO.ite ?_ ?_
      | refine LeO.bind ?_ (fun _ => ?_)
    · intro y0 y1 y2 y3 y4 y5
      unfold musterlaw31_TableFit.l0
      repeat' first
      | (with_reducible exact ih0 _ _ _ _ _ _ _)
      | (with_reducible exact ih1 _ _ _ _ _ _)
      | (with_reducible exact ih2 _ _ _ _ _ _)
      | (with_reducible exact musterlaw31_awake.mono _)
      | (with_reducible exact LeO.refl _)
      | (with_reducible exact LeO.none _)
      | (with_reducible refine LeO.ite ?_ ?_)
      | (with_reducible refine LeO.bind ?_ (fun _ => ?_))
      | exact ih0 _ _ _ _ _ _ _
      | exact ih1 _ _ _ _ _ _
      | exact ih2 _ _ _ _ _ _
      | exact musterlaw31_awake.mono _
      | exact LeO.none _
      | refine LeO.ite ?_ ?_
      | refine LeO.bind ?_ (fun _ => ?_)
theorem musterlaw31_TableFit.mono : ∀ a0 a1 a2 k, LeO (musterlaw31_TableFit.f k a0 a1 a2) (musterlaw31_TableFit.f (k + 1) a0 a1 a2) := by
  intro a0 a1 a2 k
  obtain ⟨ih0, ih1, ih2⟩ := musterlaw31_TableFit.mono_l k
  unfold musterlaw31_TableFit.f
  repeat' first
      | (with_reducible exact ih0 _ _ _ _ _ _ _)
      | (with_reducible exact ih1 _ _ _ _ _ _)
      | (with_reducible exact ih2 _ _ _ _ _ _)
      | (with_reducible exact musterlaw31_awake.mono _)
      | (with_reducible exact LeO.refl _)
      | (with_reducible exact LeO.none _)
      | (with_reducible refine LeO.ite ?_ ?_)
      | (with_reducible refine LeO.bind ?_ (fun _ => ?_))
      | exact ih0 _ _ _ _ _ _ _
      | exact ih1 _ _ _ _ _ _
      | exact ih2 _ _ _ _ _ _
      | exact musterlaw31_awake.mono _
      | exact LeO.none _
      | refine LeO.ite ?_ ?_
      | refine LeO.bind ?_ (fun _ => ?_)
set_option maxHeartbeats 8000000 in
set_option maxRecDepth 100000 in
theorem musterlaw31_TableFit.calls (k : Nat) (a0 : ByteArray) (a1 : Int) (a2 : Bool) (r : Bool) (w : World) (h : musterlaw31_TableFit.f k a0 a1 a2 = some r) :
    Calls Tryd.prog 6 #[.string a0, .int .i64 a1, .bool a2] w fun e w' => e = .returned (.bool r) ∧ Below w.heap.size w w' := by
  have HB := Aside0.mk (Below.refl w.heap.size w)
  have H : (if a1 > 2000 then ((musterlaw31_awake.f k).bind fun t145 => (some t145)) else ((table_Fit.f a0 a1 a2).bind fun t146 => ((table_Width.f a0).bind fun t147 => (if a1 < 1 then (if t146.toList = ([] : List UInt8) then ((musterlaw31_awake.f k).bind fun t148 => (some t148)) else (some false)) else (if t147 > a1 then (if (t146.size : Int) < (a0.size : Int) then (if 0 ≤ (t146.size : Int) then (if (t146.size : Int) ≤ (a0.size : Int) then (if (a0.extract 0 ((t146.size : Int) : Int).toNat).toList = t146.toList then ((table_Width.f t146).bind fun t149 => (if t149 ≤ a1 then ((musterlaw31_awake.f k).bind fun t150 => (some t150)) else (some false))) else (some false)) else (none)) else (none)) else (some false)) else (if a2 = true then (musterlaw31_TableFit.j0 k a0 a1 a2 t146 t147 (wrap64 ((t146.size : Int) - (a0.size : Int))) (wrap64 ((t146.size : Int) - (a0.size : Int)))) else (musterlaw31_TableFit.j0 k a0 a1 a2 t146 t147 (wrap64 ((t146.size : Int) - (a0.size : Int))) 0))))))) = some r := h
  clear h
  by_cases c4 : a1 > 2000
  · rw [if_pos c4] at H
    have c4b0 : decide (2000 < a1) = true := decide_eq_true c4
    clear c4
    replace H := Option.bind_eq_some_iff.mp H
    obtain ⟨t145, A50, H⟩ := H
    replace H : (some t145) = some r := H
    have A5 := Aside0.mk A50
    clear A50
    obtain rfl := Option.some.inj H
    go_enter Tryd.func6, Tryd.ntmps6
    go_wp2_with (first | ((with_reducible refine gate_callee (f := 9) rfl ?_); refine goesL_ (some 14) rfl rfl Tryd.func9 (by kernel_rfl) rfl #[] rfl (by (try simp only [List.map_toArray, List.map_cons, List.map_nil]); first | done | rfl | (simp only [List.length_drop, List.length_take]; rfl)) ?_; (with_reducible refine (musterlaw31_awake.calls k  t145 _ A5.out).mono ?_); rintro e w6 ⟨rfl, hb⟩; refine ⟨_, rfl, ?_⟩; have n0_ := Aside0.mk (below_step (by repeat (first | (with_reducible first | exact HB.out | apply below_alloc | apply pw_below_drewN | apply below_drew1) | exact HB.out)) hb); clear HB; have HB := n0_; clear n0_; (try clear hb); (try clear hb2); (try clear hk); (try clear hi)))
    go_ret
    exact ⟨by first | rfl | (simp [errW_none, errW_some] <;> rfl) | (simp [*, errW_none, errW_some] <;> rfl), by repeat (first | (with_reducible first | exact HB.out | apply below_alloc | apply pw_below_drewN | apply below_drew1) | exact HB.out)⟩
  · rw [if_neg c4] at H
    have c4b0 : decide (2000 < a1) = false := decide_eq_false c4
    clear c4
    replace H := Option.bind_eq_some_iff.mp H
    obtain ⟨t146, A70, H⟩ := H
    replace H : ((table_Width.f a0).bind fun t147 => (if a1 < 1 then (if t146.toList = ([] : List UInt8) then ((musterlaw31_awake.f k).bind fun t148 => (some t148)) else (some false)) else (if t147 > a1 then (if (t146.size : Int) < (a0.size : Int) then (if 0 ≤ (t146.size : Int) then (if (t146.size : Int) ≤ (a0.size : Int) then (if (a0.extract 0 ((t146.size : Int) : Int).toNat).toList = t146.toList then ((table_Width.f t146).bind fun t149 => (if t149 ≤ a1 then ((musterlaw31_awake.f k).bind fun t150 => (some t150)) else (some false))) else (some false)) else (none)) else (none)) else (some false)) else (if a2 = true then (musterlaw31_TableFit.j0 k a0 a1 a2 t146 t147 (wrap64 ((t146.size : Int) - (a0.size : Int))) (wrap64 ((t146.size : Int) - (a0.size : Int)))) else (musterlaw31_TableFit.j0 k a0 a1 a2 t146 t147 (wrap64 ((t146.size : Int) - (a0.size : Int))) 0))))) = some r := H
    have A7 := Aside0.mk A70
    clear A70
    replace H := Option.bind_eq_some_iff.mp H
    obtain ⟨t147, A80, H⟩ := H
    replace H : (if a1 < 1 then (if t146.toList = ([] : List UInt8) then ((musterlaw31_awake.f k).bind fun t148 => (some t148)) else (some false)) else (if t147 > a1 then (if (t146.size : Int) < (a0.size : Int) then (if 0 ≤ (t146.size : Int) then (if (t146.size : Int) ≤ (a0.size : Int) then (if (a0.extract 0 ((t146.size : Int) : Int).toNat).toList = t146.toList then ((table_Width.f t146).bind fun t149 => (if t149 ≤ a1 then ((musterlaw31_awake.f k).bind fun t150 => (some t150)) else (some false))) else (some false)) else (none)) else (none)) else (some false)) else (if a2 = true then (musterlaw31_TableFit.j0 k a0 a1 a2 t146 t147 (wrap64 ((t146.size : Int) - (a0.size : Int))) (wrap64 ((t146.size : Int) - (a0.size : Int)))) else (musterlaw31_TableFit.j0 k a0 a1 a2 t146 t147 (wrap64 ((t146.size : Int) - (a0.size : Int))) 0)))) = some r := H
    have A8 := Aside0.mk A80
    clear A80
    by_cases c9 : a1 < 1
    · rw [if_pos c9] at H
      have c9b0 : decide (a1 < 1) = true := decide_eq_true c9
      clear c9
      by_cases c10 : t146.toList = ([] : List UInt8)
      · rw [if_pos c10] at H
        have c10b0 : (t146.toList == ([] : List UInt8)) = true := beq_iff_eq.mpr c10
        have c10b1 : (t146.toList != ([] : List UInt8)) = false := bne_eq_false_iff_eq.mpr c10
        clear c10
        replace H := Option.bind_eq_some_iff.mp H
        obtain ⟨t148, A110, H⟩ := H
        replace H : (some t148) = some r := H
        have A11 := Aside0.mk A110
        clear A110
        obtain rfl := Option.some.inj H
        go_enter Tryd.func6, Tryd.ntmps6
        go_wp2_with (first | ((with_reducible refine gate_callee (f := 14) rfl ?_); refine goesL_ (some 18) rfl rfl Tryd.func14 (by kernel_rfl) rfl #[.string a0, .int .i64 a1, .bool a2] rfl (by (try simp only [List.map_toArray, List.map_cons, List.map_nil]); first | done | rfl | (simp only [List.length_drop, List.length_take]; rfl)) ?_; (with_reducible refine (table_Fit.calls a0 a1 a2 t146 _ A7.out).mono ?_); rintro e w12 ⟨rfl, hb⟩; refine ⟨_, rfl, ?_⟩; have n0_ := Aside0.mk (below_step (by repeat (first | (with_reducible first | exact HB.out | apply below_alloc | apply pw_below_drewN | apply below_drew1) | exact HB.out)) hb); clear HB; have HB := n0_; clear n0_; (try clear hb); (try clear hb2); (try clear hk); (try clear hi)) | ((with_reducible refine gate_callee (f := 12) rfl ?_); refine goesL_ (some 20) rfl rfl Tryd.func12 (by kernel_rfl) rfl #[.string a0] rfl (by (try simp only [List.map_toArray, List.map_cons, List.map_nil]); first | done | rfl | (simp only [List.length_drop, List.length_take]; rfl)) ?_; (with_reducible refine (table_Width.calls a0 t147 _ A8.out).mono ?_); rintro e w13 ⟨rfl, hb⟩; refine ⟨_, rfl, ?_⟩; have n0_ := Aside0.mk (below_step (by repeat (first | (with_reducible first | exact HB.out | apply below_alloc | apply pw_below_drewN | apply below_drew1) | exact HB.out)) hb); clear HB; have HB := n0_; clear n0_; (try clear hb); (try clear hb2); (try clear hk); (try clear hi)) | (go_at_call 9; (with_reducible refine (musterlaw31_awake.calls k  t148 _ A11.out).mono ?_); rintro e w14 ⟨rfl, hb⟩; have n0_ := Aside0.mk (below_step (by repeat (first | (with_reducible first | exact HB.out | apply below_alloc | apply pw_below_drewN | apply below_drew1) | exact HB.out)) hb); clear HB; have HB := n0_; clear n0_; (try clear hb); (try clear hb2); (try clear hk); (try clear hi)))
        go_ret
        exact ⟨by first | rfl | (simp [errW_none, errW_some] <;> rfl) | (simp [*, errW_none, errW_some] <;> rfl), by repeat (first | (with_reducible first | exact HB.out | apply below_alloc | apply pw_below_drewN | apply below_drew1) | exact HB.out)⟩
      · rw [if_neg c10] at H
        have c10b0 : (t146.toList == ([] : List UInt8)) = false := beq_eq_false_iff_ne.mpr c10
        have c10b1 : (t146.toList != ([] : List UInt8)) = true := bne_iff_ne.mpr c10
        obtain rfl := Option.some.inj H
        go_enter Tryd.func6, Tryd.ntmps6
        go_wp2_with (first | ((with_reducible refine gate_callee (f := 14) rfl ?_); refine goesL_ (some 18) rfl rfl Tryd.func14 (by kernel_rfl) rfl #[.string a0, .int .i64 a1, .bool a2] rfl (by (try simp only [List.map_toArray, List.map_cons, List.map_nil]); first | done | rfl | (simp only [List.length_drop, List.length_take]; rfl)) ?_; (with_reducible refine (table_Fit.calls a0 a1 a2 t146 _ A7.out).mono ?_); rintro e w15 ⟨rfl, hb⟩; refine ⟨_, rfl, ?_⟩; have n0_ := Aside0.mk (below_step (by repeat (first | (with_reducible first | exact HB.out | apply below_alloc | apply pw_below_drewN | apply below_drew1) | exact HB.out)) hb); clear HB; have HB := n0_; clear n0_; (try clear hb); (try clear hb2); (try clear hk); (try clear hi)) | ((with_reducible refine gate_callee (f := 12) rfl ?_); refine goesL_ (some 20) rfl rfl Tryd.func12 (by kernel_rfl) rfl #[.string a0] rfl (by (try simp only [List.map_toArray, List.map_cons, List.map_nil]); first | done | rfl | (simp only [List.length_drop, List.length_take]; rfl)) ?_; (with_reducible refine (table_Width.calls a0 t147 _ A8.out).mono ?_); rintro e w16 ⟨rfl, hb⟩; refine ⟨_, rfl, ?_⟩; have n0_ := Aside0.mk (below_step (by repeat (first | (with_reducible first | exact HB.out | apply below_alloc | apply pw_below_drewN | apply below_drew1) | exact HB.out)) hb); clear HB; have HB := n0_; clear n0_; (try clear hb); (try clear hb2); (try clear hk); (try clear hi)))
        go_ret
        exact ⟨by first | rfl | (simp [errW_none, errW_some] <;> rfl) | (simp [*, errW_none, errW_some] <;> rfl), by repeat (first | (with_reducible first | exact HB.out | apply below_alloc | apply pw_below_drewN | apply below_drew1) | exact HB.out)⟩
    · rw [if_neg c9] at H
      have c9b0 : decide (a1 < 1) = false := decide_eq_false c9
      clear c9
      by_cases c17 : t147 > a1
      · rw [if_pos c17] at H
        have c17b0 : decide (a1 < t147) = true := decide_eq_true c17
        clear c17
        by_cases c18 : (t146.size : Int) < (a0.size : Int)
        · rw [if_pos c18] at H
          have c18b0 : decide ((t146.size : Int) < (a0.size : Int)) = true := decide_eq_true c18
          have c18b1 : decide (t146.size < a0.size) = true := decide_eq_true (Int.ofNat_lt.mp c18)
          clear c18
          by_cases c19 : 0 ≤ (t146.size : Int)
          · rw [if_pos c19] at H
            have c19b0 := eq_true c19
            have c19b1 : decide (0 ≤ (t146.size : Int)) = true := decide_eq_true c19
            clear c19
            by_cases c20 : (t146.size : Int) ≤ (a0.size : Int)
            · rw [if_pos c20] at H
              have c20b0 := eq_true c20
              have c20b1 : decide ((t146.size : Int) ≤ (a0.size : Int)) = true := decide_eq_true c20
              clear c20
              by_cases c21 : (a0.extract 0 ((t146.size : Int) : Int).toNat).toList = t146.toList
              · rw [if_pos c21] at H
                have c21b0 : ((a0.extract 0 ((t146.size : Int) : Int).toNat).toList == t146.toList) = true := beq_iff_eq.mpr c21
                have c21t0 := c21b0
                simp only [Int.toNat_natCast] at c21t0
                have c21b1 : ((a0.extract 0 ((t146.size : Int) : Int).toNat).toList != t146.toList) = false := bne_eq_false_iff_eq.mpr c21
                have c21t1 := c21b1
                simp only [Int.toNat_natCast] at c21t1
                clear c21
                replace H := Option.bind_eq_some_iff.mp H
                obtain ⟨t149, A220, H⟩ := H
                replace H : (if t149 ≤ a1 then ((musterlaw31_awake.f k).bind fun t150 => (some t150)) else (some false)) = some r := H
                have A22 := Aside0.mk A220
                clear A220
                by_cases c23 : t149 ≤ a1
                · rw [if_pos c23] at H
                  have c23b0 : decide (t149 ≤ a1) = true := decide_eq_true c23
                  clear c23
                  replace H := Option.bind_eq_some_iff.mp H
                  obtain ⟨t150, A240, H⟩ := H
                  replace H : (some t150) = some r := H
                  have A24 := Aside0.mk A240
                  clear A240
                  obtain rfl := Option.some.inj H
                  go_enter Tryd.func6, Tryd.ntmps6
                  go_wp2_with (first | ((with_reducible refine gate_callee (f := 14) rfl ?_); refine goesL_ (some 18) rfl rfl Tryd.func14 (by kernel_rfl) rfl #[.string a0, .int .i64 a1, .bool a2] rfl (by (try simp only [List.map_toArray, List.map_cons, List.map_nil]); first | done | rfl | (simp only [List.length_drop, List.length_take]; rfl)) ?_; (with_reducible refine (table_Fit.calls a0 a1 a2 t146 _ A7.out).mono ?_); rintro e w25 ⟨rfl, hb⟩; refine ⟨_, rfl, ?_⟩; have n0_ := Aside0.mk (below_step (by repeat (first | (with_reducible first | exact HB.out | apply below_alloc | apply pw_below_drewN | apply below_drew1) | exact HB.out)) hb); clear HB; have HB := n0_; clear n0_; (try clear hb); (try clear hb2); (try clear hk); (try clear hi)) | ((with_reducible refine gate_callee (f := 12) rfl ?_); refine goesL_ (some 20) rfl rfl Tryd.func12 (by kernel_rfl) rfl #[.string a0] rfl (by (try simp only [List.map_toArray, List.map_cons, List.map_nil]); first | done | rfl | (simp only [List.length_drop, List.length_take]; rfl)) ?_; (with_reducible refine (table_Width.calls a0 t147 _ A8.out).mono ?_); rintro e w26 ⟨rfl, hb⟩; refine ⟨_, rfl, ?_⟩; have n0_ := Aside0.mk (below_step (by repeat (first | (with_reducible first | exact HB.out | apply below_alloc | apply pw_below_drewN | apply below_drew1) | exact HB.out)) hb); clear HB; have HB := n0_; clear n0_; (try clear hb); (try clear hb2); (try clear hk); (try clear hi)) | (go_at_call 12; (with_reducible refine (table_Width.calls t146 t149 _ A22.out).mono ?_); rintro e w27 ⟨rfl, hb⟩; have n0_ := Aside0.mk (below_step (by repeat (first | (with_reducible first | exact HB.out | apply below_alloc | apply pw_below_drewN | apply below_drew1) | exact HB.out)) hb); clear HB; have HB := n0_; clear n0_; (try clear hb); (try clear hb2); (try clear hk); (try clear hi)) | (go_at_call 9; (with_reducible refine (musterlaw31_awake.calls k  t150 _ A24.out).mono ?_); rintro e w28 ⟨rfl, hb⟩; have n0_ := Aside0.mk (below_step (by repeat (first | (with_reducible first | exact HB.out | apply below_alloc | apply pw_below_drewN | apply below_drew1) | exact HB.out)) hb); clear HB; have HB := n0_; clear n0_; (try clear hb); (try clear hb2); (try clear hk); (try clear hi)))
                  go_ret
                  exact ⟨by first | rfl | (simp [errW_none, errW_some] <;> rfl) | (simp [*, errW_none, errW_some] <;> rfl), by repeat (first | (with_reducible first | exact HB.out | apply below_alloc | apply pw_below_drewN | apply below_drew1) | exact HB.out)⟩
                · rw [if_neg c23] at H
                  have c23b0 : decide (t149 ≤ a1) = false := decide_eq_false c23
                  clear c23
                  obtain rfl := Option.some.inj H
                  go_enter Tryd.func6, Tryd.ntmps6
                  go_wp2_with (first | ((with_reducible refine gate_callee (f := 14) rfl ?_); refine goesL_ (some 18) rfl rfl Tryd.func14 (by kernel_rfl) rfl #[.string a0, .int .i64 a1, .bool a2] rfl (by (try simp only [List.map_toArray, List.map_cons, List.map_nil]); first | done | rfl | (simp only [List.length_drop, List.length_take]; rfl)) ?_; (with_reducible refine (table_Fit.calls a0 a1 a2 t146 _ A7.out).mono ?_); rintro e w29 ⟨rfl, hb⟩; refine ⟨_, rfl, ?_⟩; have n0_ := Aside0.mk (below_step (by repeat (first | (with_reducible first | exact HB.out | apply below_alloc | apply pw_below_drewN | apply below_drew1) | exact HB.out)) hb); clear HB; have HB := n0_; clear n0_; (try clear hb); (try clear hb2); (try clear hk); (try clear hi)) | ((with_reducible refine gate_callee (f := 12) rfl ?_); refine goesL_ (some 20) rfl rfl Tryd.func12 (by kernel_rfl) rfl #[.string a0] rfl (by (try simp only [List.map_toArray, List.map_cons, List.map_nil]); first | done | rfl | (simp only [List.length_drop, List.length_take]; rfl)) ?_; (with_reducible refine (table_Width.calls a0 t147 _ A8.out).mono ?_); rintro e w30 ⟨rfl, hb⟩; refine ⟨_, rfl, ?_⟩; have n0_ := Aside0.mk (below_step (by repeat (first | (with_reducible first | exact HB.out | apply below_alloc | apply pw_below_drewN | apply below_drew1) | exact HB.out)) hb); clear HB; have HB := n0_; clear n0_; (try clear hb); (try clear hb2); (try clear hk); (try clear hi)) | (go_at_call 12; (with_reducible refine (table_Width.calls t146 t149 _ A22.out).mono ?_); rintro e w31 ⟨rfl, hb⟩; have n0_ := Aside0.mk (below_step (by repeat (first | (with_reducible first | exact HB.out | apply below_alloc | apply pw_below_drewN | apply below_drew1) | exact HB.out)) hb); clear HB; have HB := n0_; clear n0_; (try clear hb); (try clear hb2); (try clear hk); (try clear hi)))
                  go_ret
                  exact ⟨by first | rfl | (simp [errW_none, errW_some] <;> rfl) | (simp [*, errW_none, errW_some] <;> rfl), by repeat (first | (with_reducible first | exact HB.out | apply below_alloc | apply pw_below_drewN | apply below_drew1) | exact HB.out)⟩
              · rw [if_neg c21] at H
                have c21b0 : ((a0.extract 0 ((t146.size : Int) : Int).toNat).toList == t146.toList) = false := beq_eq_false_iff_ne.mpr c21
                have c21t0 := c21b0
                simp only [Int.toNat_natCast] at c21t0
                have c21b1 : ((a0.extract 0 ((t146.size : Int) : Int).toNat).toList != t146.toList) = true := bne_iff_ne.mpr c21
                have c21t1 := c21b1
                simp only [Int.toNat_natCast] at c21t1
                obtain rfl := Option.some.inj H
                go_enter Tryd.func6, Tryd.ntmps6
                go_wp2_with (first | ((with_reducible refine gate_callee (f := 14) rfl ?_); refine goesL_ (some 18) rfl rfl Tryd.func14 (by kernel_rfl) rfl #[.string a0, .int .i64 a1, .bool a2] rfl (by (try simp only [List.map_toArray, List.map_cons, List.map_nil]); first | done | rfl | (simp only [List.length_drop, List.length_take]; rfl)) ?_; (with_reducible refine (table_Fit.calls a0 a1 a2 t146 _ A7.out).mono ?_); rintro e w32 ⟨rfl, hb⟩; refine ⟨_, rfl, ?_⟩; have n0_ := Aside0.mk (below_step (by repeat (first | (with_reducible first | exact HB.out | apply below_alloc | apply pw_below_drewN | apply below_drew1) | exact HB.out)) hb); clear HB; have HB := n0_; clear n0_; (try clear hb); (try clear hb2); (try clear hk); (try clear hi)) | ((with_reducible refine gate_callee (f := 12) rfl ?_); refine goesL_ (some 20) rfl rfl Tryd.func12 (by kernel_rfl) rfl #[.string a0] rfl (by (try simp only [List.map_toArray, List.map_cons, List.map_nil]); first | done | rfl | (simp only [List.length_drop, List.length_take]; rfl)) ?_; (with_reducible refine (table_Width.calls a0 t147 _ A8.out).mono ?_); rintro e w33 ⟨rfl, hb⟩; refine ⟨_, rfl, ?_⟩; have n0_ := Aside0.mk (below_step (by repeat (first | (with_reducible first | exact HB.out | apply below_alloc | apply pw_below_drewN | apply below_drew1) | exact HB.out)) hb); clear HB; have HB := n0_; clear n0_; (try clear hb); (try clear hb2); (try clear hk); (try clear hi)))
                go_ret
                exact ⟨by first | rfl | (simp [errW_none, errW_some] <;> rfl) | (simp [*, errW_none, errW_some] <;> rfl), by repeat (first | (with_reducible first | exact HB.out | apply below_alloc | apply pw_below_drewN | apply below_drew1) | exact HB.out)⟩
            · rw [if_neg c20] at H
              exact absurd H (by simp)
          · rw [if_neg c19] at H
            exact absurd H (by simp)
        · rw [if_neg c18] at H
          have c18b0 : decide ((t146.size : Int) < (a0.size : Int)) = false := decide_eq_false c18
          have c18b1 : decide (t146.size < a0.size) = false := decide_eq_false (fun h => c18 (Int.ofNat_lt.mpr h))
          clear c18
          obtain rfl := Option.some.inj H
          go_enter Tryd.func6, Tryd.ntmps6
          go_wp2_with (first | ((with_reducible refine gate_callee (f := 14) rfl ?_); refine goesL_ (some 18) rfl rfl Tryd.func14 (by kernel_rfl) rfl #[.string a0, .int .i64 a1, .bool a2] rfl (by (try simp only [List.map_toArray, List.map_cons, List.map_nil]); first | done | rfl | (simp only [List.length_drop, List.length_take]; rfl)) ?_; (with_reducible refine (table_Fit.calls a0 a1 a2 t146 _ A7.out).mono ?_); rintro e w34 ⟨rfl, hb⟩; refine ⟨_, rfl, ?_⟩; have n0_ := Aside0.mk (below_step (by repeat (first | (with_reducible first | exact HB.out | apply below_alloc | apply pw_below_drewN | apply below_drew1) | exact HB.out)) hb); clear HB; have HB := n0_; clear n0_; (try clear hb); (try clear hb2); (try clear hk); (try clear hi)) | ((with_reducible refine gate_callee (f := 12) rfl ?_); refine goesL_ (some 20) rfl rfl Tryd.func12 (by kernel_rfl) rfl #[.string a0] rfl (by (try simp only [List.map_toArray, List.map_cons, List.map_nil]); first | done | rfl | (simp only [List.length_drop, List.length_take]; rfl)) ?_; (with_reducible refine (table_Width.calls a0 t147 _ A8.out).mono ?_); rintro e w35 ⟨rfl, hb⟩; refine ⟨_, rfl, ?_⟩; have n0_ := Aside0.mk (below_step (by repeat (first | (with_reducible first | exact HB.out | apply below_alloc | apply pw_below_drewN | apply below_drew1) | exact HB.out)) hb); clear HB; have HB := n0_; clear n0_; (try clear hb); (try clear hb2); (try clear hk); (try clear hi)))
          go_ret
          exact ⟨by first | rfl | (simp [errW_none, errW_some] <;> rfl) | (simp [*, errW_none, errW_some] <;> rfl), by repeat (first | (with_reducible first | exact HB.out | apply below_alloc | apply pw_below_drewN | apply below_drew1) | exact HB.out)⟩
      · rw [if_neg c17] at H
        have c17b0 : decide (a1 < t147) = false := decide_eq_false c17
        clear c17
        have HC36 := Aside0.mk H
        clear H
        go_enter Tryd.func6, Tryd.ntmps6
        go_upto_if 60 with (first | ((with_reducible refine gate_callee (f := 14) rfl ?_); refine goesL_ (some 18) rfl rfl Tryd.func14 (by kernel_rfl) rfl #[.string a0, .int .i64 a1, .bool a2] rfl (by (try simp only [List.map_toArray, List.map_cons, List.map_nil]); first | done | rfl | (simp only [List.length_drop, List.length_take]; rfl)) ?_; (with_reducible refine (table_Fit.calls a0 a1 a2 t146 _ A7.out).mono ?_); rintro e w37 ⟨rfl, hb⟩; refine ⟨_, rfl, ?_⟩; have n0_ := Aside0.mk (below_step (by repeat (first | (with_reducible first | exact HB.out | apply below_alloc | apply pw_below_drewN | apply below_drew1) | exact HB.out)) hb); clear HB; have HB := n0_; clear n0_; (try clear hb); (try clear hb2); (try clear hk); (try clear hi)) | ((with_reducible refine gate_callee (f := 12) rfl ?_); refine goesL_ (some 20) rfl rfl Tryd.func12 (by kernel_rfl) rfl #[.string a0] rfl (by (try simp only [List.map_toArray, List.map_cons, List.map_nil]); first | done | rfl | (simp only [List.length_drop, List.length_take]; rfl)) ?_; (with_reducible refine (table_Width.calls a0 t147 _ A8.out).mono ?_); rintro e w38 ⟨rfl, hb⟩; refine ⟨_, rfl, ?_⟩; have n0_ := Aside0.mk (below_step (by repeat (first | (with_reducible first | exact HB.out | apply below_alloc | apply pw_below_drewN | apply below_drew1) | exact HB.out)) hb); clear HB; have HB := n0_; clear n0_; (try clear hb); (try clear hb2); (try clear hk); (try clear hi)))
        (try simp only [Act.put, List.setIfInBounds_toArray, List.set_cons_zero, List.set_cons_succ])
        go_cut [10] (fun v10 wc => ∃ (kq : Nat) (x10_35 : Int), v10 = .int .i64 x10_35 ∧ Aside0 (musterlaw31_TableFit.j0 kq a0 a1 a2 t146 t147 (wrap64 ((t146.size : Int) - (a0.size : Int))) x10_35 = some r) ∧ Aside0 (kq ≤ k) ∧ Aside0 (Below w.heap.size w wc))
        case first =>
          have H := HC36.out
          clear HC36
          by_cases c39 : a2 = true
          · subst c39
            have H1 : (musterlaw31_TableFit.j0 k a0 a1 true t146 t147 (wrap64 ((t146.size : Int) - (a0.size : Int))) (wrap64 ((t146.size : Int) - (a0.size : Int)))) = some r := by rw [if_pos rfl] at H; exact H
            clear H
            have H := H1
            clear H1
            have H' := Aside0.mk H
            clear H
            go_wp2
            go_meet
            case rel => exact ⟨_, (wrap64 ((t146.size : Int) - (a0.size : Int))), (by first | rfl | (simp; done) | (simp [*]; done)), H', ⟨by first | omega | exact Nat.le_refl _⟩, ⟨by repeat (first | (with_reducible first | exact HB.out | apply below_alloc | apply pw_below_drewN | apply below_drew1) | exact HB.out)⟩⟩
          · replace c39 := Bool.eq_false_iff.mpr c39
            subst c39
            have H1 : (musterlaw31_TableFit.j0 k a0 a1 false t146 t147 (wrap64 ((t146.size : Int) - (a0.size : Int))) 0) = some r := by rw [if_neg (show ¬ (false = true) by decide)] at H; exact H
            clear H
            have H := H1
            clear H1
            have H' := Aside0.mk H
            clear H
            go_wp2
            go_meet
            case rel => exact ⟨_, (0), (by first | rfl | (simp; done) | (simp [*]; done)), H', ⟨by first | omega | exact Nat.le_refl _⟩, ⟨by repeat (first | (with_reducible first | exact HB.out | apply below_alloc | apply pw_below_drewN | apply below_drew1) | exact HB.out)⟩⟩
        case rest =>
          clear HC36
          try clear c1
          try clear c2
          try clear p2
          try clear c3
          try clear c4
          try clear c4b0
          try clear c6
          try clear p6
          try clear c9
          try clear c9b0
          try clear c10
          try clear c10b0
          try clear c10b1
          try clear c12
          try clear c14
          try clear c17
          try clear c17b0
          try clear c18
          try clear c18b0
          try clear c18b1
          try clear c19
          try clear c19b0
          try clear c19b1
          try clear c20
          try clear c20b0
          try clear c20b1
          try clear c21
          try clear c21b0
          try clear c21b1
          try clear c23
          try clear c23b0
          try clear c39
          obtain ⟨kq, x10_35, rfl, HA, HJ35, HB⟩ := hcut
          cases kq with
          | zero => exact absurd HA.out (by simp [musterlaw31_TableFit.j0])
          | succ kj35 =>
            have H := HA.out
            clear HA
            simp only [musterlaw31_TableFit.j0] at H
            have HC40 := Aside0.mk H
            clear H
            go_upto_region 13 with (fail)
            go_cut [77] (fun v77 wc => ∃ (kq : Nat) (x77_39 : Bool), v77 = .bool x77_39 ∧ Aside0 (musterlaw31_TableFit.j1 kq a0 a1 a2 t146 x10_35 x77_39 = some r) ∧ Aside0 (kq ≤ kj35) ∧ Aside0 (Below w.heap.size w wc))
            case first =>
              have H := HC40.out
              clear HC40
              by_cases c41 : (wrap64 ((t146.size : Int) - (a0.size : Int))) = (wrap64 (a1 - t147))
              · rw [if_pos c41] at H
                have c41b0 : ((wrap64 ((t146.size : Int) - (a0.size : Int))) == (wrap64 (a1 - t147))) = true := beq_iff_eq.mpr c41
                have c41b1 : ((wrap64 ((t146.size : Int) - (a0.size : Int))) != (wrap64 (a1 - t147))) = false := bne_eq_false_iff_eq.mpr c41
                clear c41
                (first | rw [c41b0] | (simp only [i64_w, i32_w]; rw [c41b0]) | skip)
                by_cases c42 : 0 ≤ x10_35
                · rw [if_pos c42] at H
                  have c42b0 := eq_true c42
                  have c42b1 : decide (0 ≤ x10_35) = true := decide_eq_true c42
                  clear c42
                  by_cases c43 : x10_35 ≤ (wrap64 (x10_35 + (a0.size : Int)))
                  · rw [if_pos c43] at H
                    have c43b0 := eq_true c43
                    have c43b1 : decide (x10_35 ≤ (wrap64 (x10_35 + (a0.size : Int)))) = true := decide_eq_true c43
                    by_cases c44 : (wrap64 (x10_35 + (a0.size : Int))) ≤ (t146.size : Int)
                    · rw [if_pos c44] at H
                      have c44b0 := eq_true c44
                      have c44b1 : decide ((wrap64 (x10_35 + (a0.size : Int))) ≤ (t146.size : Int)) = true := decide_eq_true c44
                      have H' := Aside0.mk H
                      clear H
                      go_wp2
                      go_meet
                      case rel => exact ⟨_, (((t146.extract (x10_35 : Int).toNat ((wrap64 (x10_35 + (a0.size : Int))) : Int).toNat).toList != a0.toList)), (by first | rfl | (simp; done) | (simp [*]; done)), H', ⟨by have := HJ35.out; first | omega | exact Nat.le_refl _⟩, ⟨by repeat (first | (with_reducible first | exact HB.out | apply below_alloc | apply pw_below_drewN | apply below_drew1) | exact HB.out)⟩⟩
                    · rw [if_neg c44] at H
                      exact absurd H (by simp)
                  · rw [if_neg c43] at H
                    exact absurd H (by simp)
                · rw [if_neg c42] at H
                  exact absurd H (by simp)
              · rw [if_neg c41] at H
                have c41b0 : ((wrap64 ((t146.size : Int) - (a0.size : Int))) == (wrap64 (a1 - t147))) = false := beq_eq_false_iff_ne.mpr c41
                have c41b1 : ((wrap64 ((t146.size : Int) - (a0.size : Int))) != (wrap64 (a1 - t147))) = true := bne_iff_ne.mpr c41
                (first | rw [c41b0] | (simp only [i64_w, i32_w]; rw [c41b0]) | skip)
                have H' := Aside0.mk H
                clear H
                go_wp2
                go_meet
                case rel => exact ⟨_, (true), (by first | rfl | (simp; done) | (simp [*]; done)), H', ⟨by have := HJ35.out; first | omega | exact Nat.le_refl _⟩, ⟨by repeat (first | (with_reducible first | exact HB.out | apply below_alloc | apply pw_below_drewN | apply below_drew1) | exact HB.out)⟩⟩
            case rest =>
              clear HC40
              try clear c1
              try clear c2
              try clear p2
              try clear c3
              try clear c4
              try clear c4b0
              try clear c6
              try clear p6
              try clear c9
              try clear c9b0
              try clear c10
              try clear c10b0
              try clear c10b1
              try clear c12
              try clear c14
              try clear c17
              try clear c17b0
              try clear c18
              try clear c18b0
              try clear c18b1
              try clear c19
              try clear c19b0
              try clear c19b1
              try clear c20
              try clear c20b0
              try clear c20b1
              try clear c21
              try clear c21b0
              try clear c21b1
              try clear c23
              try clear c23b0
              try clear c39
              try clear c41
              try clear c41b0
              try clear c41b1
              try clear c42
              try clear c42b0
              try clear c42b1
              try clear c43
              try clear c43b0
              try clear c43b1
              try clear c44
              try clear c44b0
              try clear c44b1
              try clear p2
              try clear p6
              obtain ⟨kq, x77_39, rfl, HA, HJ39, HB⟩ := hcut
              cases kq with
              | zero => exact absurd HA.out (by simp [musterlaw31_TableFit.j1])
              | succ kj39 =>
                have H := HA.out
                clear HA
                simp only [musterlaw31_TableFit.j1] at H
                by_cases c45 : x77_39 = true
                · subst c45
                  have H1 : (some false) = some r := by rw [if_pos rfl] at H; exact H
                  clear H
                  have H := H1
                  clear H1
                  obtain rfl := Option.some.inj H
                  go_wp2
                  go_ret
                  exact ⟨by first | rfl | (simp [errW_none, errW_some] <;> rfl) | (simp [*, errW_none, errW_some] <;> rfl), by repeat (first | (with_reducible first | exact HB.out | apply below_alloc | apply pw_below_drewN | apply below_drew1) | exact HB.out)⟩
                · replace c45 := Bool.eq_false_iff.mpr c45
                  subst c45
                  have H1 : (musterlaw31_TableFit.l0 kj39 a0 a1 a2 t146 x10_35 0) = some r := by rw [if_neg (show ¬ (false = true) by decide)] at H; exact H
                  clear H
                  have H := H1
                  clear H1
                  have H' := Aside0.mk H
                  clear H
                  go_wp2
                  go_loopg [11] kj39 (fun kq v11 w' => ∃ (x11_3 : Int), v11 = .int .i64 x11_3 ∧ Aside0 (musterlaw31_TableFit.l0 kq a0 a1 a2 t146 x10_35 x11_3 = some r) ∧ Aside0 (kq ≤ kj39) ∧ Aside0 (Below w.heap.size w w'))
                  case atStart => exact ⟨(0), (by first | rfl | (simp; done) | (simp [*]; done)), H', ⟨Nat.le_refl _⟩, ⟨by repeat (first | (with_reducible first | exact HB.out | apply below_alloc | apply pw_below_drewN | apply below_drew1) | exact HB.out)⟩⟩
                  case round =>
                    clear H'
                    try clear c1
                    try clear c2
                    try clear p2
                    try clear c3
                    try clear c4
                    try clear c4b0
                    try clear c6
                    try clear p6
                    try clear c9
                    try clear c9b0
                    try clear c10
                    try clear c10b0
                    try clear c10b1
                    try clear c12
                    try clear c14
                    try clear c17
                    try clear c17b0
                    try clear c18
                    try clear c18b0
                    try clear c18b1
                    try clear c19
                    try clear c19b0
                    try clear c19b1
                    try clear c20
                    try clear c20b0
                    try clear c20b1
                    try clear c21
                    try clear c21b0
                    try clear c21b1
                    try clear c23
                    try clear c23b0
                    try clear c39
                    try clear c41
                    try clear c41b0
                    try clear c41b1
                    try clear c42
                    try clear c42b0
                    try clear c42b1
                    try clear c43
                    try clear c43b0
                    try clear c43b1
                    try clear c44
                    try clear c44b0
                    try clear c44b1
                    try clear c45
                    try clear p2
                    try clear p6
                    obtain ⟨x11_3, rfl, HA, HK3, HB⟩ := hrel
                    cases gk with
                    | zero => exact absurd HA.out (by simp [musterlaw31_TableFit.l0])
                    | succ k3 =>
                      have H := HA.out
                      clear HA
                      simp only [musterlaw31_TableFit.l0] at H
                      by_cases c46 : x11_3 < (t146.size : Int)
                      · rw [if_pos c46] at H
                        have c46b0 : decide (x11_3 < (t146.size : Int)) = true := decide_eq_true c46
                        clear c46
                        by_cases c47 : x11_3 < x10_35
                        · rw [if_pos c47] at H
                          have c47b0 : decide (x11_3 < x10_35) = true := decide_eq_true c47
                          clear c47
                          by_cases c48 : 0 ≤ x11_3
                          · rw [if_pos c48] at H
                            have c48b0 : decide (0 ≤ x11_3) = true := decide_eq_true c48
                            clear c48
                            by_cases c50 : (bt t146 x11_3) = 32
                            · rw [if_pos c50] at H
                              have c50b0 : ((bt t146 x11_3) == 32) = true := beq_iff_eq.mpr c50
                              have c50b1 : ((bt t146 x11_3) != 32) = false := bne_eq_false_iff_eq.mpr c50
                              clear c50
                              have H' := Aside0.mk H
                              clear H
                              have p49 : 0 ≤ (x11_3 : Int) := of_decide_eq_true (by first | (with_reducible assumption) | assumption)
                              have q49 : x11_3 < (t146.size : Int) := of_decide_eq_true (by first | (with_reducible assumption) | assumption)
                              have hx49 := bt_at t146 x11_3
                              replace p49 := eq_true p49
                              replace q49 := eq_true q49
                              go_wp2
                              go_roundg k3
                              case measure => have := HJ35.out; have := HJ39.out; have := HK3.out; omega
                              case rel => exact ⟨(wrap64 (x11_3 + 1)), (by first | rfl | (simp; done) | (simp [*]; done)), H', ⟨by have := HJ35.out; have := HJ39.out; have := HK3.out; omega⟩, ⟨by repeat (first | (with_reducible first | exact HB.out | apply below_alloc | apply pw_below_drewN | apply below_drew1) | exact HB.out)⟩⟩
                            · rw [if_neg c50] at H
                              have c50b0 : ((bt t146 x11_3) == 32) = false := beq_eq_false_iff_ne.mpr c50
                              have c50b1 : ((bt t146 x11_3) != 32) = true := bne_iff_ne.mpr c50
                              obtain rfl := Option.some.inj H
                              have p49 : 0 ≤ (x11_3 : Int) := of_decide_eq_true (by first | (with_reducible assumption) | assumption)
                              have q49 : x11_3 < (t146.size : Int) := of_decide_eq_true (by first | (with_reducible assumption) | assumption)
                              have hx49 := bt_at t146 x11_3
                              replace p49 := eq_true p49
                              replace q49 := eq_true q49
                              go_wp2
                              go_ret
                              exact ⟨by first | rfl | (simp [errW_none, errW_some] <;> rfl) | (simp [*, errW_none, errW_some] <;> rfl), by repeat (first | (with_reducible first | exact HB.out | apply below_alloc | apply pw_below_drewN | apply below_drew1) | exact HB.out)⟩
                          · rw [if_neg c48] at H
                            exact absurd H (by simp)
                        · rw [if_neg c47] at H
                          have c47b0 : decide (x11_3 < x10_35) = false := decide_eq_false c47
                          clear c47
                          by_cases c51 : x11_3 ≥ (wrap64 (x10_35 + (a0.size : Int)))
                          · rw [if_pos c51] at H
                            have c51b0 : decide ((wrap64 (x10_35 + (a0.size : Int))) ≤ x11_3) = true := decide_eq_true c51
                            clear c51
                            by_cases c52 : 0 ≤ x11_3
                            · rw [if_pos c52] at H
                              have c52b0 : decide (0 ≤ x11_3) = true := decide_eq_true c52
                              clear c52
                              by_cases c54 : (bt t146 x11_3) = 32
                              · rw [if_pos c54] at H
                                have c54b0 : ((bt t146 x11_3) == 32) = true := beq_iff_eq.mpr c54
                                have c54b1 : ((bt t146 x11_3) != 32) = false := bne_eq_false_iff_eq.mpr c54
                                clear c54
                                have H' := Aside0.mk H
                                clear H
                                have p53 : 0 ≤ (x11_3 : Int) := of_decide_eq_true (by first | (with_reducible assumption) | assumption)
                                have q53 : x11_3 < (t146.size : Int) := of_decide_eq_true (by first | (with_reducible assumption) | assumption)
                                have hx53 := bt_at t146 x11_3
                                replace p53 := eq_true p53
                                replace q53 := eq_true q53
                                go_wp2
                                go_roundg k3
                                case measure => have := HJ35.out; have := HJ39.out; have := HK3.out; omega
                                case rel => exact ⟨(wrap64 (x11_3 + 1)), (by first | rfl | (simp; done) | (simp [*]; done)), H', ⟨by have := HJ35.out; have := HJ39.out; have := HK3.out; omega⟩, ⟨by repeat (first | (with_reducible first | exact HB.out | apply below_alloc | apply pw_below_drewN | apply below_drew1) | exact HB.out)⟩⟩
                              · rw [if_neg c54] at H
                                have c54b0 : ((bt t146 x11_3) == 32) = false := beq_eq_false_iff_ne.mpr c54
                                have c54b1 : ((bt t146 x11_3) != 32) = true := bne_iff_ne.mpr c54
                                obtain rfl := Option.some.inj H
                                have p53 : 0 ≤ (x11_3 : Int) := of_decide_eq_true (by first | (with_reducible assumption) | assumption)
                                have q53 : x11_3 < (t146.size : Int) := of_decide_eq_true (by first | (with_reducible assumption) | assumption)
                                have hx53 := bt_at t146 x11_3
                                replace p53 := eq_true p53
                                replace q53 := eq_true q53
                                go_wp2
                                go_ret
                                exact ⟨by first | rfl | (simp [errW_none, errW_some] <;> rfl) | (simp [*, errW_none, errW_some] <;> rfl), by repeat (first | (with_reducible first | exact HB.out | apply below_alloc | apply pw_below_drewN | apply below_drew1) | exact HB.out)⟩
                            · rw [if_neg c52] at H
                              exact absurd H (by simp)
                          · rw [if_neg c51] at H
                            have c51b0 : decide ((wrap64 (x10_35 + (a0.size : Int))) ≤ x11_3) = false := decide_eq_false c51
                            clear c51
                            have H' := Aside0.mk H
                            clear H
                            go_wp2
                            go_roundg k3
                            case measure => have := HJ35.out; have := HJ39.out; have := HK3.out; omega
                            case rel => exact ⟨(wrap64 (x11_3 + 1)), (by first | rfl | (simp; done) | (simp [*]; done)), H', ⟨by have := HJ35.out; have := HJ39.out; have := HK3.out; omega⟩, ⟨by repeat (first | (with_reducible first | exact HB.out | apply below_alloc | apply pw_below_drewN | apply below_drew1) | exact HB.out)⟩⟩
                      · rw [if_neg c46] at H
                        have c46b0 : decide (x11_3 < (t146.size : Int)) = false := decide_eq_false c46
                        clear c46
                        replace H := Option.bind_eq_some_iff.mp H
                        obtain ⟨t151, A550, H⟩ := H
                        replace H : (if t151.toList = t146.toList then ((musterlaw31_awake.f k3).bind fun t152 => (some t152)) else (some false)) = some r := H
                        have A55 := Aside0.mk A550
                        clear A550
                        by_cases c56 : t151.toList = t146.toList
                        · rw [if_pos c56] at H
                          have c56b0 : (t151.toList == t146.toList) = true := beq_iff_eq.mpr c56
                          have c56b1 : (t151.toList != t146.toList) = false := bne_eq_false_iff_eq.mpr c56
                          clear c56
                          replace H := Option.bind_eq_some_iff.mp H
                          obtain ⟨t152, A570, H⟩ := H
                          replace H : (some t152) = some r := H
                          have A57 := Aside0.mk A570
                          clear A570
                          obtain rfl := Option.some.inj H
                          go_wp2_with (first | ((with_reducible refine gate_callee (f := 14) rfl ?_); refine goesL_ (some 105) rfl rfl Tryd.func14 (by kernel_rfl) rfl #[.string t146, .int .i64 a1, .bool (!a2)] rfl (by (try simp only [List.map_toArray, List.map_cons, List.map_nil]); first | done | rfl | (simp only [List.length_drop, List.length_take]; rfl)) ?_; (with_reducible refine (table_Fit.calls t146 a1 (!a2) t151 _ A55.out).mono ?_); rintro e w58 ⟨rfl, hb⟩; refine ⟨_, rfl, ?_⟩; have n0_ := Aside0.mk (below_step (by repeat (first | (with_reducible first | exact HB.out | apply below_alloc | apply pw_below_drewN | apply below_drew1) | exact HB.out)) hb); clear HB; have HB := n0_; clear n0_; (try clear hb); (try clear hb2); (try clear hk); (try clear hi)) | (go_at_call 9; (with_reducible refine (musterlaw31_awake.calls k3  t152 _ A57.out).mono ?_); rintro e w59 ⟨rfl, hb⟩; have n0_ := Aside0.mk (below_step (by repeat (first | (with_reducible first | exact HB.out | apply below_alloc | apply pw_below_drewN | apply below_drew1) | exact HB.out)) hb); clear HB; have HB := n0_; clear n0_; (try clear hb); (try clear hb2); (try clear hk); (try clear hi)))
                          go_ret
                          exact ⟨by first | rfl | (simp [errW_none, errW_some] <;> rfl) | (simp [*, errW_none, errW_some] <;> rfl), by repeat (first | (with_reducible first | exact HB.out | apply below_alloc | apply pw_below_drewN | apply below_drew1) | exact HB.out)⟩
                        · rw [if_neg c56] at H
                          have c56b0 : (t151.toList == t146.toList) = false := beq_eq_false_iff_ne.mpr c56
                          have c56b1 : (t151.toList != t146.toList) = true := bne_iff_ne.mpr c56
                          obtain rfl := Option.some.inj H
                          go_wp2_with (first | ((with_reducible refine gate_callee (f := 14) rfl ?_); refine goesL_ (some 105) rfl rfl Tryd.func14 (by kernel_rfl) rfl #[.string t146, .int .i64 a1, .bool (!a2)] rfl (by (try simp only [List.map_toArray, List.map_cons, List.map_nil]); first | done | rfl | (simp only [List.length_drop, List.length_take]; rfl)) ?_; (with_reducible refine (table_Fit.calls t146 a1 (!a2) t151 _ A55.out).mono ?_); rintro e w60 ⟨rfl, hb⟩; refine ⟨_, rfl, ?_⟩; have n0_ := Aside0.mk (below_step (by repeat (first | (with_reducible first | exact HB.out | apply below_alloc | apply pw_below_drewN | apply below_drew1) | exact HB.out)) hb); clear HB; have HB := n0_; clear n0_; (try clear hb); (try clear hb2); (try clear hk); (try clear hi)))
                          go_ret
                          exact ⟨by first | rfl | (simp [errW_none, errW_some] <;> rfl) | (simp [*, errW_none, errW_some] <;> rfl), by repeat (first | (with_reducible first | exact HB.out | apply below_alloc | apply pw_below_drewN | apply below_drew1) | exact HB.out)⟩

/-- THE ONE PURE STATEMENT of musterlaw31_TableFit: yours. -/
def musterlaw31_TableFit.Pure : Prop := ∀ (a0 : ByteArray) (a1 : Int) (a2 : Bool), a0.size ≤ 140737488351232 → (Lit.int .i64 a1).wf = true → ∃ k, musterlaw31_TableFit.f k a0 a1 a2 = some true
theorem musterlaw31_TableFit.walk (P : musterlaw31_TableFit.Pure) (a0 : ByteArray) (a1 : Int) (a2 : Bool) (w : World) (w0 : a0.size ≤ 140737488351232) (w1 : (Lit.int .i64 a1).wf = true) :
    Calls Tryd.prog 6 #[.string a0, .int .i64 a1, .bool a2] w fun e w' => e = .returned (.bool true) ∧ Below w.heap.size w w' := by
  obtain ⟨k, h⟩ := P a0 a1 a2 w0 w1
  refine (musterlaw31_TableFit.calls k a0 a1 a2 true w h).mono ?_
  rintro e w' ⟨rfl, hd⟩
  exact ⟨rfl, hd⟩

end Go.Proofs.YthlbdbaanlehhaaDoor.Pr

-- MENDED
