-- MINIFIED by wip/tools/minify.py
-- Written by this session's program wip/tools/pr.py out of the translation (with the kit's print.py). Not trusted: Lean checks it.
import Derived.Test.YtinpgejkkfpckaaPr0
import Derived.Test.YtinpgejkkfpckaaPr10
namespace Go.Proofs.Ytinpgejkkfpckaa.Pr
open Go.RowKit Go.Proofs.YtinpgejkkfpckaaW.PrintWords Go.Proofs.YtinpgejkkfpckaaW.PrintLast Go.Proofs.YtinpgejkkfpckaaW.PrintMore
attribute [local go_sem] max2_int min2_int max_two min_two max_three min_three max_four min_four   -- for this text's walks alone
set_option linter.unusedVariables false
set_option linter.unusedSimpArgs false

abbrev kPr130 : Array Bool := #[true, true, true, true, true, true, true, true, true, true, true, true, true, true, true, true]
abbrev kPr131 : Array Bool := #[true, true, true, true, true, true, true, true, true, true, true, true, true, true, true, false]
abbrev kPr132 : Array Bool := #[true, true, true, true, true, true, true, true, true, true, true, true, true, true, false, false]
abbrev kPr133 : Array Bool := #[true, true, true, true, true, true, true, true, true, true, true, true, true, false, false, false]
abbrev kPr134 : Array Bool := #[true, true, true, true, true, true, true, true, true, true, true, true, false, false, false, false]
abbrev kPr135 : Array Bool := #[true, true, true, true, true, true, true, true, true, true, true, false, false, false, false, false]
abbrev kPr136 : Array Bool := #[true, true, true, true, true, true, true, true, true, true, false, false, false, false, false, false]
abbrev kPr137 : Array Bool := #[true, true, true, true, true, true, true, true, true, false, false, false, false, false, false, false]
abbrev kPr138 : Array Bool := #[true, true, true, true, true, true, true, false, true, false, false, false, false, false, false, false]
abbrev kPr139 : Array Bool := #[true, true, true, true, true, false, true, false, true, false, false, false, false, false, false, false]
abbrev kPr1310 : Array Bool := #[true, true, true, false, true, false, true, false, true, false, false, false, false, false, false, false]
abbrev kPr1311 : Array Bool := #[true, true, true, false, true, false, true, false, false, false, false, false, false, false, false, false]
abbrev kPr1312 : Array Bool := #[true, false, true, false, true, false, true, false, false, false, false, false, false, false, false, false]
abbrev kPr1313 : Array Bool := #[true, false, true, false, true, false, false, false, false, false, false, false, false, false, false, false]
abbrev kPr1314 : Array Bool := #[true, false, true, false, false, false, false, false, false, false, false, false, false, false, false, false]
abbrev kPr1315 : Array Bool := #[true, false, false, false, false, false, false, false, false, false, false, false, false, false, false, false]
abbrev kPr1316 : Array Bool := #[false, false, false, false, false, false, false, false, false, false, false, false, false, false, false, false]
/-! ### musterref27_run: function 46 -/
def musterref27_run.j0 : Nat → Bool → Bool → Int → ByteArray → ByteArray → Int → Int → Int → Int → Int → Int → Int → Int → Int → ByteArray → ByteArray → Int → Int → Int → Int → Int → Int → ByteArray → ByteArray → Int → Int → Int → Int → Int → Int → ByteArray → ByteArray → Int → Int → Int → Option (Int × ByteArray × ByteArray × Int × Int × Int × Int × Int × Int)
 | 0, _, _, _, _, _, _, _, _, _, _, _, _, _, _, _, _, _, _, _, _, _, _, _, _, _, _, _, _, _, _, _, _, _, _, _ => none
 | k + 1, x7, x11, x206000, x206001, x206002, x206003, x206004, x206005, x206006, x206007, x206008, x216000, x216001, x216002, x216003, x216004, x216005, x216006, x216007, x236000, x236001, x236002, x236003, x236004, x236005, x236006, x236007, x237000, x237001, x237002, x237003, x237004, x237005, x237006, x237007 => if x7 = true then (if x11 = true then (some (x206000, x216003, x216004, x216005, x216006, x236007, x216002, x206007, x236002)) else (some (x206000, x216003, x216004, x216005, x216006, x206005, x216002, x206007, x206008))) else (if x11 = true then (some (x206000, x237003, x237004, x237005, x237006, x236007, x206006, x206007, x236002)) else (some (x206000, x237003, x237004, x237005, x237006, x206005, x206006, x206007, x206008)))
def musterref27_run.f (k : Nat) (l0 : List (S36)) (a1 : Int) : Option (Int × ByteArray × ByteArray × Int × Int × Int × Int × Int × Int) := (musterref27_find.f k l0 a1 1).bind fun bt206 => ((musterref27_find.f k l0 a1 2).bind fun bt216 => ((musterref27_find.f k l0 a1 3).bind fun bt226 => (if bt216.2.2.2.2.2.2.2.2 = true then (musterref27_run.j0 k bt206.2.2.2.2.2.2.2.2 bt226.2.2.2.2.2.2.2.2 a1 (⟨#[]⟩ : ByteArray) (⟨#[]⟩ : ByteArray) 0 0 2 (-1) bt216.2.2.1 (-1) bt206.1 bt206.2.1 bt206.2.2.1 bt206.2.2.2.1 bt206.2.2.2.2.1 bt206.2.2.2.2.2.1 bt206.2.2.2.2.2.2.1 bt206.2.2.2.2.2.2.2.1 bt226.1 bt226.2.1 bt226.2.2.1 bt226.2.2.2.1 bt226.2.2.2.2.1 bt226.2.2.2.2.2.1 bt226.2.2.2.2.2.2.1 bt226.2.2.2.2.2.2.2.1 bt216.1 bt216.2.1 bt216.2.2.1 bt216.2.2.2.1 bt216.2.2.2.2.1 bt216.2.2.2.2.2.1 bt216.2.2.2.2.2.2.1 bt216.2.2.2.2.2.2.2.1) else (musterref27_run.j0 k bt206.2.2.2.2.2.2.2.2 bt226.2.2.2.2.2.2.2.2 a1 (⟨#[]⟩ : ByteArray) (⟨#[]⟩ : ByteArray) 0 0 1 (-1) (-1) (-1) bt206.1 bt206.2.1 bt206.2.2.1 bt206.2.2.2.1 bt206.2.2.2.2.1 bt206.2.2.2.2.2.1 bt206.2.2.2.2.2.2.1 bt206.2.2.2.2.2.2.2.1 bt226.1 bt226.2.1 bt226.2.2.1 bt226.2.2.2.1 bt226.2.2.2.2.1 bt226.2.2.2.2.2.1 bt226.2.2.2.2.2.2.1 bt226.2.2.2.2.2.2.2.1 bt226.1 bt226.2.1 bt226.2.2.1 bt226.2.2.2.1 bt226.2.2.2.2.1 bt226.2.2.2.2.2.1 bt226.2.2.2.2.2.2.1 bt226.2.2.2.2.2.2.2.1))))
theorem musterref27_run.mono_l : ∀ k, (∀ y0 y1 y2 y3 y4 y5 y6 y7 y8 y9 y10 y11 y12 y13 y14 y15 y16 y17 y18 y19 y20 y21 y22 y23 y24 y25 y26 y27 y28 y29 y30 y31 y32 y33 y34, LeO (musterref27_run.j0 k y0 y1 y2 y3 y4 y5 y6 y7 y8 y9 y10 y11 y12 y13 y14 y15 y16 y17 y18 y19 y20 y21 y22 y23 y24 y25 y26 y27 y28 y29 y30 y31 y32 y33 y34) (musterref27_run.j0 (k + 1) y0 y1 y2 y3 y4 y5 y6 y7 y8 y9 y10 y11 y12 y13 y14 y15 y16 y17 y18 y19 y20 y21 y22 y23 y24 y25 y26 y27 y28 y29 y30 y31 y32 y33 y34))
 | 0 => fun _ _ _ _ _ _ _ _ _ _ _ _ _ _ _ _ _ _ _ _ _ _ _ _ _ _ _ _ _ _ _ _ _ _ _ r h => by simp [musterref27_run.j0] at h
 | k + 1 => by
  have ih0 := musterref27_run.mono_l k
  ·intro y0 y1 y2 y3 y4 y5 y6 y7 y8 y9 y10 y11 y12 y13 y14 y15 y16 y17 y18 y19 y20 y21 y22 y23 y24 y25 y26 y27 y28 y29 y30 y31 y32 y33 y34
   unfold musterref27_run.j0
   repeat' first
   | (with_reducible exact ih0 _ _ _ _ _ _ _ _ _ _ _ _ _ _ _ _ _ _ _ _ _ _ _ _ _ _ _ _ _ _ _ _ _ _ _)
   | (with_reducible exact musterref27_find.mono _ _ _ _)
   | (with_reducible exact LeO.refl _)
   | (with_reducible exact LeO.none _)
   | (with_reducible refine LeO.ite ?_ ?_)
   | (with_reducible refine LeO.bind ?_ (fun _ => ?_))
   | exact ih0 _ _ _ _ _ _ _ _ _ _ _ _ _ _ _ _ _ _ _ _ _ _ _ _ _ _ _ _ _ _ _ _ _ _ _
   | exact musterref27_find.mono _ _ _ _
   | exact LeO.none _
   | refine LeO.ite ?_ ?_
   | refine LeO.bind ?_ (fun _ => ?_)
theorem musterref27_run.mono : ∀ a0 a1 k, LeO (musterref27_run.f k a0 a1) (musterref27_run.f (k + 1) a0 a1) := by
 intro a0 a1 k
 have ih0 := musterref27_run.mono_l k
 unfold musterref27_run.f
 repeat' first
   | (with_reducible exact ih0 _ _ _ _ _ _ _ _ _ _ _ _ _ _ _ _ _ _ _ _ _ _ _ _ _ _ _ _ _ _ _ _ _ _ _)
   | (with_reducible exact musterref27_find.mono _ _ _ _)
   | (with_reducible exact LeO.refl _)
   | (with_reducible exact LeO.none _)
   | (with_reducible refine LeO.ite ?_ ?_)
   | (with_reducible refine LeO.bind ?_ (fun _ => ?_))
   | exact ih0 _ _ _ _ _ _ _ _ _ _ _ _ _ _ _ _ _ _ _ _ _ _ _ _ _ _ _ _ _ _ _ _ _ _ _
   | exact musterref27_find.mono _ _ _ _
   | exact LeO.none _
   | refine LeO.ite ?_ ?_
   | refine LeO.bind ?_ (fun _ => ?_)
def musterref27_run.T16 : Bool × List (List Nat × List Nat) := (true, [([], []), ([0], [0]), ([], []), ([2], [2]), ([], []), ([4], [4]), ([], []), ([6], [6]), ([0, 1], []), ([8, 1, 0, 1], [1, 8]), ([0, 1, 2, 3, 8, 9], []), ([10, 3, 9, 0, 1, 2, 3, 8, 9], [3, 10]), ([0, 1, 2, 3, 4, 5, 8, 9, 10, 11], []), ([12, 5, 11, 0, 1, 2, 3, 4, 5, 8, 9, 10, 11], [5, 12]), ([0, 1, 2, 3, 4, 5, 6, 7, 8, 9, 10, 11, 12, 13], []), ([14, 7, 13, 0, 1, 2, 3, 4, 5, 6, 7, 8, 9, 10, 11, 12, 13], [7, 14])])
def musterref27_run.B16 : List Nat := [0, 1, 0, 4, 0, 16, 0, 64, 3, 259, 783, 1807, 3903, 7999, 16383, 32767]
theorem musterref27_run.tab16 : rtab .any (opsOf Try.f46 16) = musterref27_run.T16 := by kernel_rfl
theorem musterref27_run.bits16 : waitsOk musterref27_run.T16.2 musterref27_run.B16 = true := by kernel_rfl
set_option maxHeartbeats 8000000 in
set_option maxRecDepth 100000 in
theorem musterref27_run.calls (k : Nat) (A0 : Option Addr) (c0 : Nat) (l0 : List (S36)) (a1 : Int) (r1 : Int) (r2 : ByteArray) (r3 : ByteArray) (r4 : Int) (r5 : Int) (r6 : Int) (r7 : Int) (r8 : Int) (r9 : Int) (w : World) (hr0 : Kd.C k36 w A0 l0.length l0) (hc0 : l0.length ≤ c0) (h : musterref27_run.f k l0 a1 = some (r1, r2, r3, r4, r5, r6, r7, r8, r9)) :
  Calls Try.prog 46 #[.slice A0 l0.length c0, .int .i64 a1] w fun e w' => e = .returned (.agg #[.int .i64 r1, .string r2, .string r3, .int .i64 r4, .int .i64 r5, .int .u8 r6, .int .i64 r7, .int .i64 r8, .int .i64 r9]) ∧ Below w.heap.size w w' := by
 have hu56 := Try.underlying56
 have hu36 := Try.underlying36
 have HR0 := Aside0.mk hr0
 have HC0 := Aside0.mk hc0
 clear hr0 hc0
 have HB := Aside0.mk (Below.refl w.heap.size w)
 have H : ((musterref27_find.f k l0 a1 1).bind fun bt206 => ((musterref27_find.f k l0 a1 2).bind fun bt216 => ((musterref27_find.f k l0 a1 3).bind fun bt226 => (if bt216.2.2.2.2.2.2.2.2 = true then (musterref27_run.j0 k bt206.2.2.2.2.2.2.2.2 bt226.2.2.2.2.2.2.2.2 a1 (⟨#[]⟩ : ByteArray) (⟨#[]⟩ : ByteArray) 0 0 2 (-1) bt216.2.2.1 (-1) bt206.1 bt206.2.1 bt206.2.2.1 bt206.2.2.2.1 bt206.2.2.2.2.1 bt206.2.2.2.2.2.1 bt206.2.2.2.2.2.2.1 bt206.2.2.2.2.2.2.2.1 bt226.1 bt226.2.1 bt226.2.2.1 bt226.2.2.2.1 bt226.2.2.2.2.1 bt226.2.2.2.2.2.1 bt226.2.2.2.2.2.2.1 bt226.2.2.2.2.2.2.2.1 bt216.1 bt216.2.1 bt216.2.2.1 bt216.2.2.2.1 bt216.2.2.2.2.1 bt216.2.2.2.2.2.1 bt216.2.2.2.2.2.2.1 bt216.2.2.2.2.2.2.2.1) else (musterref27_run.j0 k bt206.2.2.2.2.2.2.2.2 bt226.2.2.2.2.2.2.2.2 a1 (⟨#[]⟩ : ByteArray) (⟨#[]⟩ : ByteArray) 0 0 1 (-1) (-1) (-1) bt206.1 bt206.2.1 bt206.2.2.1 bt206.2.2.2.1 bt206.2.2.2.2.1 bt206.2.2.2.2.2.1 bt206.2.2.2.2.2.2.1 bt206.2.2.2.2.2.2.2.1 bt226.1 bt226.2.1 bt226.2.2.1 bt226.2.2.2.1 bt226.2.2.2.2.1 bt226.2.2.2.2.2.1 bt226.2.2.2.2.2.2.1 bt226.2.2.2.2.2.2.2.1 bt226.1 bt226.2.1 bt226.2.2.1 bt226.2.2.2.1 bt226.2.2.2.2.1 bt226.2.2.2.2.2.1 bt226.2.2.2.2.2.2.1 bt226.2.2.2.2.2.2.2.1))))) = some (r1, r2, r3, r4, r5, r6, r7, r8, r9) := h
 clear h
 replace H := Option.bind_eq_some_iff.mp H
 obtain ⟨⟨t206, t207, t208, t209, t210, t211, t212, t213, t214⟩, A30, H⟩ := H
 replace H : ((musterref27_find.f k l0 a1 2).bind fun bt216 => ((musterref27_find.f k l0 a1 3).bind fun bt226 => (if bt216.2.2.2.2.2.2.2.2 = true then (musterref27_run.j0 k t214 bt226.2.2.2.2.2.2.2.2 a1 (⟨#[]⟩ : ByteArray) (⟨#[]⟩ : ByteArray) 0 0 2 (-1) bt216.2.2.1 (-1) t206 t207 t208 t209 t210 t211 t212 t213 bt226.1 bt226.2.1 bt226.2.2.1 bt226.2.2.2.1 bt226.2.2.2.2.1 bt226.2.2.2.2.2.1 bt226.2.2.2.2.2.2.1 bt226.2.2.2.2.2.2.2.1 bt216.1 bt216.2.1 bt216.2.2.1 bt216.2.2.2.1 bt216.2.2.2.2.1 bt216.2.2.2.2.2.1 bt216.2.2.2.2.2.2.1 bt216.2.2.2.2.2.2.2.1) else (musterref27_run.j0 k t214 bt226.2.2.2.2.2.2.2.2 a1 (⟨#[]⟩ : ByteArray) (⟨#[]⟩ : ByteArray) 0 0 1 (-1) (-1) (-1) t206 t207 t208 t209 t210 t211 t212 t213 bt226.1 bt226.2.1 bt226.2.2.1 bt226.2.2.2.1 bt226.2.2.2.2.1 bt226.2.2.2.2.2.1 bt226.2.2.2.2.2.2.1 bt226.2.2.2.2.2.2.2.1 bt226.1 bt226.2.1 bt226.2.2.1 bt226.2.2.2.1 bt226.2.2.2.2.1 bt226.2.2.2.2.2.1 bt226.2.2.2.2.2.2.1 bt226.2.2.2.2.2.2.2.1)))) = some (r1, r2, r3, r4, r5, r6, r7, r8, r9) := H
 have A3 := Aside0.mk A30
 clear A30
 replace H := Option.bind_eq_some_iff.mp H
 obtain ⟨⟨t216, t217, t218, t219, t220, t221, t222, t223, t224⟩, A40, H⟩ := H
 replace H : ((musterref27_find.f k l0 a1 3).bind fun bt226 => (if t224 = true then (musterref27_run.j0 k t214 bt226.2.2.2.2.2.2.2.2 a1 (⟨#[]⟩ : ByteArray) (⟨#[]⟩ : ByteArray) 0 0 2 (-1) t218 (-1) t206 t207 t208 t209 t210 t211 t212 t213 bt226.1 bt226.2.1 bt226.2.2.1 bt226.2.2.2.1 bt226.2.2.2.2.1 bt226.2.2.2.2.2.1 bt226.2.2.2.2.2.2.1 bt226.2.2.2.2.2.2.2.1 t216 t217 t218 t219 t220 t221 t222 t223) else (musterref27_run.j0 k t214 bt226.2.2.2.2.2.2.2.2 a1 (⟨#[]⟩ : ByteArray) (⟨#[]⟩ : ByteArray) 0 0 1 (-1) (-1) (-1) t206 t207 t208 t209 t210 t211 t212 t213 bt226.1 bt226.2.1 bt226.2.2.1 bt226.2.2.2.1 bt226.2.2.2.2.1 bt226.2.2.2.2.2.1 bt226.2.2.2.2.2.2.1 bt226.2.2.2.2.2.2.2.1 bt226.1 bt226.2.1 bt226.2.2.1 bt226.2.2.2.1 bt226.2.2.2.2.1 bt226.2.2.2.2.2.1 bt226.2.2.2.2.2.2.1 bt226.2.2.2.2.2.2.2.1))) = some (r1, r2, r3, r4, r5, r6, r7, r8, r9) := H
 have A4 := Aside0.mk A40
 clear A40
 replace H := Option.bind_eq_some_iff.mp H
 obtain ⟨⟨t226, t227, t228, t229, t230, t231, t232, t233, t234⟩, A50, H⟩ := H
 replace H : (if t224 = true then (musterref27_run.j0 k t214 t234 a1 (⟨#[]⟩ : ByteArray) (⟨#[]⟩ : ByteArray) 0 0 2 (-1) t218 (-1) t206 t207 t208 t209 t210 t211 t212 t213 t226 t227 t228 t229 t230 t231 t232 t233 t216 t217 t218 t219 t220 t221 t222 t223) else (musterref27_run.j0 k t214 t234 a1 (⟨#[]⟩ : ByteArray) (⟨#[]⟩ : ByteArray) 0 0 1 (-1) (-1) (-1) t206 t207 t208 t209 t210 t211 t212 t213 t226 t227 t228 t229 t230 t231 t232 t233 t226 t227 t228 t229 t230 t231 t232 t233)) = some (r1, r2, r3, r4, r5, r6, r7, r8, r9) := H
 have A5 := Aside0.mk A50
 clear A50
 have HC6 := Aside0.mk H
 clear H
 go_enter Try.func46, Try.ntmps46
 go_upto_if 34 with (first | ((with_reducible refine gate_dst (N := 4) rfl ?_); refine box_event ?hg (N := 4) ?hd (cs := #[.int .i64 0, .string (⟨#[]⟩ : ByteArray), .string (⟨#[]⟩ : ByteArray), .int .i64 0, .int .i64 0, .int .u8 0, .int .i64 0, .int .i64 0, .int .i64 0]) (t := 56) ?hr ?_; (case hd => rfl); (case hg => rfl); (case hr => first | (go_simp; done) | (go_simp; rfl)); intro gb204 hg w7 hbox hb; have n0_ := Aside0.mk (below_step (by repeat (first | (with_reducible first | exact HB.out | apply below_alloc | apply pw_below_drewN | apply below_drew1) | exact HB.out)) hb); have n1_ := Aside0.mk (hbox); have n2_ := Aside0.mk ((by rw [hg]; exact (below_size (by repeat (first | (with_reducible first | exact HB.out | apply below_alloc | apply pw_below_drewN | apply below_drew1) | exact HB.out))) : w.heap.size ≤ gb204)); have n3_ := Aside0.mk ((by rw [hg]; exact (below_size (by repeat (first | (with_reducible first | exact HB.out | apply below_alloc | apply pw_below_drewN | apply below_drew1) | exact HB.out))) : w.heap.size ≤ gb204)); clear HB; have HB := n0_; have BK204 := n1_; have GW204 := n2_; have GE204 := n3_; clear n0_ n1_ n2_ n3_; clear hb hbox hg) | ((with_reducible refine gate_dst (N := 5) rfl ?_); refine box_event ?hg (N := 5) ?hd (cs := #[.int .i64 0, .string (⟨#[]⟩ : ByteArray), .string (⟨#[]⟩ : ByteArray), .int .i64 0, .int .i64 0, .int .u8 0, .int .i64 0, .int .i64 0, .int .i64 0]) (t := 56) ?hr ?_; (case hd => rfl); (case hg => rfl); (case hr => first | (go_simp; done) | (go_simp; rfl)); intro gb205 hg w8 hbox hb; have n0_ := Aside0.mk (blk_below (g := gb204) (o := .cells #[.int .i64 0, .string (⟨#[]⟩ : ByteArray), .string (⟨#[]⟩ : ByteArray), .int .i64 0, .int .i64 0, .int .u8 0, .int .i64 0, .int .i64 0, .int .i64 0] 56 (0, 0)) (by (with_reducible repeat (first | refine blk_drewN ?_ _ | refine blk_drew ?_ | refine blk_alloc ?_ _)); exact BK204.out) hb); have n1_ := Aside0.mk (below_step (by repeat (first | (with_reducible first | exact HB.out | apply below_alloc | apply pw_below_drewN | apply below_drew1 | refine below_set ?_ GE204.out) | exact HB.out)) hb); have n2_ := Aside0.mk (hbox); have n3_ := Aside0.mk ((by rw [hg]; exact (below_size (by repeat (first | (with_reducible first | exact HB.out | apply below_alloc | apply pw_below_drewN | apply below_drew1 | refine below_set ?_ GE204.out) | exact HB.out))) : w.heap.size ≤ gb205)); have n4_ := Aside0.mk ((by rw [hg]; exact (below_size (by repeat (first | (with_reducible first | exact HB.out | apply below_alloc | apply pw_below_drewN | apply below_drew1 | refine below_set ?_ GE204.out) | exact HB.out))) : w.heap.size ≤ gb205)); have n5_ := Aside0.mk ((by rw [hg]; exact Nat.ne_of_lt (blk_lt (g := gb204) (o := .cells #[.int .i64 0, .string (⟨#[]⟩ : ByteArray), .string (⟨#[]⟩ : ByteArray), .int .i64 0, .int .i64 0, .int .u8 0, .int .i64 0, .int .i64 0, .int .i64 0] 56 (0, 0)) (by (with_reducible repeat (first | refine blk_drewN ?_ _ | refine blk_drew ?_ | refine blk_alloc ?_ _)); exact BK204.out)) : gb204 ≠ gb205)); have n6_ := Aside0.mk ((by rw [hg]; exact Nat.ne_of_gt (blk_lt (g := gb204) (o := .cells #[.int .i64 0, .string (⟨#[]⟩ : ByteArray), .string (⟨#[]⟩ : ByteArray), .int .i64 0, .int .i64 0, .int .u8 0, .int .i64 0, .int .i64 0, .int .i64 0] 56 (0, 0)) (by (with_reducible repeat (first | refine blk_drewN ?_ _ | refine blk_drew ?_ | refine blk_alloc ?_ _)); exact BK204.out)) : gb205 ≠ gb204)); clear BK204; clear HB; have BK204 := n0_; have HB := n1_; have BK205 := n2_; have GW205 := n3_; have GE205 := n4_; have NB204_205 := n5_; have NB205_204 := n6_; clear n0_ n1_ n2_ n3_ n4_ n5_ n6_; clear hb hbox hg; have hnb9 := NB205_204.out; have hnc9 := NB204_205.out; have hcz10_0 : w8.cell? ⟨gb205, 0, none⟩ = some (.int .i64 0) := (blk_cell BK205.out 0).trans rfl; have hcz10_1 : w8.cell? ⟨gb205, 1, none⟩ = some (.string (⟨#[]⟩ : ByteArray)) := (blk_cell BK205.out 1).trans rfl; have hcz10_2 : w8.cell? ⟨gb205, 2, none⟩ = some (.string (⟨#[]⟩ : ByteArray)) := (blk_cell BK205.out 2).trans rfl; have hcz10_3 : w8.cell? ⟨gb205, 3, none⟩ = some (.int .i64 0) := (blk_cell BK205.out 3).trans rfl; have hcz10_4 : w8.cell? ⟨gb205, 4, none⟩ = some (.int .i64 0) := (blk_cell BK205.out 4).trans rfl; have hcz10_5 : w8.cell? ⟨gb205, 5, none⟩ = some (.int .u8 0) := (blk_cell BK205.out 5).trans rfl; have hcz10_6 : w8.cell? ⟨gb205, 6, none⟩ = some (.int .i64 0) := (blk_cell BK205.out 6).trans rfl; have hcz10_7 : w8.cell? ⟨gb205, 7, none⟩ = some (.int .i64 0) := (blk_cell BK205.out 7).trans rfl; have hcz10_8 : w8.cell? ⟨gb205, 8, none⟩ = some (.int .i64 0) := (blk_cell BK205.out 8).trans rfl; have hfz10_0 := blk_frozen BK205.out 0; have hfz10_1 := blk_frozen BK205.out 1; have hfz10_2 := blk_frozen BK205.out 2; have hfz10_3 := blk_frozen BK205.out 3; have hfz10_4 := blk_frozen BK205.out 4; have hfz10_5 := blk_frozen BK205.out 5; have hfz10_6 := blk_frozen BK205.out 6; have hfz10_7 := blk_frozen BK205.out 7; have hfz10_8 := blk_frozen BK205.out 8) | ((with_reducible refine gate_callee (f := 44) rfl ?_); refine goesL_ (some 18) rfl rfl Try.func44 (by kernel_rfl) rfl #[.slice A0 l0.length c0, .int .i64 a1, .int .u8 1] rfl (by (try simp only [List.map_toArray, List.map_cons, List.map_nil]); first | done | rfl | (simp only [List.length_drop, List.length_take]; rfl)) ?_; (with_reducible refine (musterref27_find.calls k _ _ l0 a1 1 t206 t207 t208 t209 t210 t211 t212 t213 t214 _ ?side1 ?side2 A3.out).mono ?_); (case side1 => exact Kd.C_below HR0.out (by repeat (first | (with_reducible first | exact HB.out | apply below_alloc | apply pw_below_drewN | apply below_drew1 | refine below_set ?_ GE204.out | refine below_set ?_ GE205.out) | exact HB.out))); (case side2 => exact HC0.out); rintro e w11 ⟨rfl, hb⟩; refine ⟨_, rfl, ?_⟩; have n0_ := Aside0.mk (blk_below (g := gb204) (o := .cells #[.int .i64 0, .string (⟨#[]⟩ : ByteArray), .string (⟨#[]⟩ : ByteArray), .int .i64 0, .int .i64 0, .int .u8 0, .int .i64 0, .int .i64 0, .int .i64 0] 56 (0, 0)) (by (with_reducible repeat (first | refine blk_drewN ?_ _ | refine blk_drew ?_ | refine blk_alloc ?_ _)); refine blk_far ?_ NB204_205.out _; (with_reducible repeat (first | refine blk_drewN ?_ _ | refine blk_drew ?_ | refine blk_alloc ?_ _)); refine blk_far ?_ NB204_205.out _; (with_reducible repeat (first | refine blk_drewN ?_ _ | refine blk_drew ?_ | refine blk_alloc ?_ _)); refine blk_far ?_ NB204_205.out _; (with_reducible repeat (first | refine blk_drewN ?_ _ | refine blk_drew ?_ | refine blk_alloc ?_ _)); refine blk_far ?_ NB204_205.out _; (with_reducible repeat (first | refine blk_drewN ?_ _ | refine blk_drew ?_ | refine blk_alloc ?_ _)); refine blk_far ?_ NB204_205.out _; (with_reducible repeat (first | refine blk_drewN ?_ _ | refine blk_drew ?_ | refine blk_alloc ?_ _)); refine blk_far ?_ NB204_205.out _; (with_reducible repeat (first | refine blk_drewN ?_ _ | refine blk_drew ?_ | refine blk_alloc ?_ _)); refine blk_far ?_ NB204_205.out _; (with_reducible repeat (first | refine blk_drewN ?_ _ | refine blk_drew ?_ | refine blk_alloc ?_ _)); refine blk_far ?_ NB204_205.out _; (with_reducible repeat (first | refine blk_drewN ?_ _ | refine blk_drew ?_ | refine blk_alloc ?_ _)); refine blk_far ?_ NB204_205.out _; (with_reducible repeat (first | refine blk_drewN ?_ _ | refine blk_drew ?_ | refine blk_alloc ?_ _)); exact BK204.out) hb); have n1_ := Aside0.mk (blk_below (g := gb205) (o := .cells #[.int .i64 a1, .string (⟨#[]⟩ : ByteArray), .string (⟨#[]⟩ : ByteArray), .int .i64 0, .int .i64 0, .int .u8 1, .int .i64 (-1), .int .i64 (-1), .int .i64 (-1)] 56 (0, 0)) (by (with_reducible repeat (first | refine blk_drewN ?_ _ | refine blk_drew ?_ | refine blk_alloc ?_ _)); refine blk_put (cs := #[.int .i64 a1, .string (⟨#[]⟩ : ByteArray), .string (⟨#[]⟩ : ByteArray), .int .i64 0, .int .i64 0, .int .u8 1, .int .i64 (-1), .int .i64 (-1), .int .i64 0]) ?_ 8 _ rfl; (with_reducible repeat (first | refine blk_drewN ?_ _ | refine blk_drew ?_ | refine blk_alloc ?_ _)); refine blk_put (cs := #[.int .i64 a1, .string (⟨#[]⟩ : ByteArray), .string (⟨#[]⟩ : ByteArray), .int .i64 0, .int .i64 0, .int .u8 1, .int .i64 (-1), .int .i64 0, .int .i64 0]) ?_ 7 _ rfl; (with_reducible repeat (first | refine blk_drewN ?_ _ | refine blk_drew ?_ | refine blk_alloc ?_ _)); refine blk_put (cs := #[.int .i64 a1, .string (⟨#[]⟩ : ByteArray), .string (⟨#[]⟩ : ByteArray), .int .i64 0, .int .i64 0, .int .u8 1, .int .i64 0, .int .i64 0, .int .i64 0]) ?_ 6 _ rfl; (with_reducible repeat (first | refine blk_drewN ?_ _ | refine blk_drew ?_ | refine blk_alloc ?_ _)); refine blk_put (cs := #[.int .i64 a1, .string (⟨#[]⟩ : ByteArray), .string (⟨#[]⟩ : ByteArray), .int .i64 0, .int .i64 0, .int .u8 0, .int .i64 0, .int .i64 0, .int .i64 0]) ?_ 5 _ rfl; (with_reducible repeat (first | refine blk_drewN ?_ _ | refine blk_drew ?_ | refine blk_alloc ?_ _)); refine blk_put (cs := #[.int .i64 a1, .string (⟨#[]⟩ : ByteArray), .string (⟨#[]⟩ : ByteArray), .int .i64 0, .int .i64 0, .int .u8 0, .int .i64 0, .int .i64 0, .int .i64 0]) ?_ 4 _ rfl; (with_reducible repeat (first | refine blk_drewN ?_ _ | refine blk_drew ?_ | refine blk_alloc ?_ _)); refine blk_put (cs := #[.int .i64 a1, .string (⟨#[]⟩ : ByteArray), .string (⟨#[]⟩ : ByteArray), .int .i64 0, .int .i64 0, .int .u8 0, .int .i64 0, .int .i64 0, .int .i64 0]) ?_ 3 _ rfl; (with_reducible repeat (first | refine blk_drewN ?_ _ | refine blk_drew ?_ | refine blk_alloc ?_ _)); refine blk_put (cs := #[.int .i64 a1, .string (⟨#[]⟩ : ByteArray), .string (⟨#[]⟩ : ByteArray), .int .i64 0, .int .i64 0, .int .u8 0, .int .i64 0, .int .i64 0, .int .i64 0]) ?_ 2 _ rfl; (with_reducible repeat (first | refine blk_drewN ?_ _ | refine blk_drew ?_ | refine blk_alloc ?_ _)); refine blk_put (cs := #[.int .i64 a1, .string (⟨#[]⟩ : ByteArray), .string (⟨#[]⟩ : ByteArray), .int .i64 0, .int .i64 0, .int .u8 0, .int .i64 0, .int .i64 0, .int .i64 0]) ?_ 1 _ rfl; (with_reducible repeat (first | refine blk_drewN ?_ _ | refine blk_drew ?_ | refine blk_alloc ?_ _)); refine blk_put (cs := #[.int .i64 0, .string (⟨#[]⟩ : ByteArray), .string (⟨#[]⟩ : ByteArray), .int .i64 0, .int .i64 0, .int .u8 0, .int .i64 0, .int .i64 0, .int .i64 0]) ?_ 0 _ rfl; (with_reducible repeat (first | refine blk_drewN ?_ _ | refine blk_drew ?_ | refine blk_alloc ?_ _)); exact BK205.out) hb); have n2_ := Aside0.mk (below_step (by repeat (first | (with_reducible first | exact HB.out | apply below_alloc | apply pw_below_drewN | apply below_drew1 | refine below_set ?_ GE204.out | refine below_set ?_ GE205.out) | exact HB.out)) hb); clear BK204; clear BK205; clear HB; have BK204 := n0_; have BK205 := n1_; have HB := n2_; clear n0_ n1_ n2_; (try clear hb); (try clear hb2); (try clear hk); (try clear hi)) | ((with_reducible refine gate_dst (N := 6) rfl ?_); refine box_event ?hg (N := 6) ?hd (cs := #[.int .i64 0, .int .u8 0, .int .i64 0, .string (⟨#[]⟩ : ByteArray), .string (⟨#[]⟩ : ByteArray), .int .i64 0, .int .i64 0, .int .u8 0]) (t := 36) ?hr ?_; (case hd => rfl); (case hg => rfl); (case hr => first | (go_simp; done) | (go_simp; rfl)); intro gb215 hg w12 hbox hb; have n0_ := Aside0.mk (blk_below (g := gb204) (o := .cells #[.int .i64 0, .string (⟨#[]⟩ : ByteArray), .string (⟨#[]⟩ : ByteArray), .int .i64 0, .int .i64 0, .int .u8 0, .int .i64 0, .int .i64 0, .int .i64 0] 56 (0, 0)) (by (with_reducible repeat (first | refine blk_drewN ?_ _ | refine blk_drew ?_ | refine blk_alloc ?_ _)); exact BK204.out) hb); have n1_ := Aside0.mk (blk_below (g := gb205) (o := .cells #[.int .i64 a1, .string (⟨#[]⟩ : ByteArray), .string (⟨#[]⟩ : ByteArray), .int .i64 0, .int .i64 0, .int .u8 1, .int .i64 (-1), .int .i64 (-1), .int .i64 (-1)] 56 (0, 0)) (by (with_reducible repeat (first | refine blk_drewN ?_ _ | refine blk_drew ?_ | refine blk_alloc ?_ _)); exact BK205.out) hb); have n2_ := Aside0.mk (below_step (by repeat (first | (with_reducible first | exact HB.out | apply below_alloc | apply pw_below_drewN | apply below_drew1 | refine below_set ?_ GE204.out | refine below_set ?_ GE205.out) | exact HB.out)) hb); have n3_ := Aside0.mk (hbox); have n4_ := Aside0.mk ((by rw [hg]; exact (below_size (by repeat (first | (with_reducible first | exact HB.out | apply below_alloc | apply pw_below_drewN | apply below_drew1 | refine below_set ?_ GE204.out | refine below_set ?_ GE205.out) | exact HB.out))) : w.heap.size ≤ gb215)); have n5_ := Aside0.mk ((by rw [hg]; exact (below_size (by repeat (first | (with_reducible first | exact HB.out | apply below_alloc | apply pw_below_drewN | apply below_drew1 | refine below_set ?_ GE204.out | refine below_set ?_ GE205.out) | exact HB.out))) : w.heap.size ≤ gb215)); have n6_ := Aside0.mk ((by rw [hg]; exact Nat.ne_of_lt (blk_lt (g := gb204) (o := .cells #[.int .i64 0, .string (⟨#[]⟩ : ByteArray), .string (⟨#[]⟩ : ByteArray), .int .i64 0, .int .i64 0, .int .u8 0, .int .i64 0, .int .i64 0, .int .i64 0] 56 (0, 0)) (by (with_reducible repeat (first | refine blk_drewN ?_ _ | refine blk_drew ?_ | refine blk_alloc ?_ _)); exact BK204.out)) : gb204 ≠ gb215)); have n7_ := Aside0.mk ((by rw [hg]; exact Nat.ne_of_gt (blk_lt (g := gb204) (o := .cells #[.int .i64 0, .string (⟨#[]⟩ : ByteArray), .string (⟨#[]⟩ : ByteArray), .int .i64 0, .int .i64 0, .int .u8 0, .int .i64 0, .int .i64 0, .int .i64 0] 56 (0, 0)) (by (with_reducible repeat (first | refine blk_drewN ?_ _ | refine blk_drew ?_ | refine blk_alloc ?_ _)); exact BK204.out)) : gb215 ≠ gb204)); have n8_ := Aside0.mk ((by rw [hg]; exact Nat.ne_of_lt (blk_lt (g := gb205) (o := .cells #[.int .i64 a1, .string (⟨#[]⟩ : ByteArray), .string (⟨#[]⟩ : ByteArray), .int .i64 0, .int .i64 0, .int .u8 1, .int .i64 (-1), .int .i64 (-1), .int .i64 (-1)] 56 (0, 0)) (by (with_reducible repeat (first | refine blk_drewN ?_ _ | refine blk_drew ?_ | refine blk_alloc ?_ _)); exact BK205.out)) : gb205 ≠ gb215)); have n9_ := Aside0.mk ((by rw [hg]; exact Nat.ne_of_gt (blk_lt (g := gb205) (o := .cells #[.int .i64 a1, .string (⟨#[]⟩ : ByteArray), .string (⟨#[]⟩ : ByteArray), .int .i64 0, .int .i64 0, .int .u8 1, .int .i64 (-1), .int .i64 (-1), .int .i64 (-1)] 56 (0, 0)) (by (with_reducible repeat (first | refine blk_drewN ?_ _ | refine blk_drew ?_ | refine blk_alloc ?_ _)); exact BK205.out)) : gb215 ≠ gb205)); clear BK204; clear BK205; clear HB; have BK204 := n0_; have BK205 := n1_; have HB := n2_; have BK215 := n3_; have GW215 := n4_; have GE215 := n5_; have NB204_215 := n6_; have NB215_204 := n7_; have NB205_215 := n8_; have NB215_205 := n9_; clear n0_ n1_ n2_ n3_ n4_ n5_ n6_ n7_ n8_ n9_; clear hb hbox hg; have hnb13 := NB215_204.out; have hnc13 := NB204_215.out; have hnb14 := NB215_205.out; have hnc14 := NB205_215.out; have hcz15_0 : w12.cell? ⟨gb215, 0, none⟩ = some (.int .i64 0) := (blk_cell BK215.out 0).trans rfl; have hcz15_1 : w12.cell? ⟨gb215, 1, none⟩ = some (.int .u8 0) := (blk_cell BK215.out 1).trans rfl; have hcz15_2 : w12.cell? ⟨gb215, 2, none⟩ = some (.int .i64 0) := (blk_cell BK215.out 2).trans rfl; have hcz15_3 : w12.cell? ⟨gb215, 3, none⟩ = some (.string (⟨#[]⟩ : ByteArray)) := (blk_cell BK215.out 3).trans rfl; have hcz15_4 : w12.cell? ⟨gb215, 4, none⟩ = some (.string (⟨#[]⟩ : ByteArray)) := (blk_cell BK215.out 4).trans rfl; have hcz15_5 : w12.cell? ⟨gb215, 5, none⟩ = some (.int .i64 0) := (blk_cell BK215.out 5).trans rfl; have hcz15_6 : w12.cell? ⟨gb215, 6, none⟩ = some (.int .i64 0) := (blk_cell BK215.out 6).trans rfl; have hcz15_7 : w12.cell? ⟨gb215, 7, none⟩ = some (.int .u8 0) := (blk_cell BK215.out 7).trans rfl; have hfz15_0 := blk_frozen BK215.out 0; have hfz15_1 := blk_frozen BK215.out 1; have hfz15_2 := blk_frozen BK215.out 2; have hfz15_3 := blk_frozen BK215.out 3; have hfz15_4 := blk_frozen BK215.out 4; have hfz15_5 := blk_frozen BK215.out 5; have hfz15_6 := blk_frozen BK215.out 6; have hfz15_7 := blk_frozen BK215.out 7) | ((with_reducible refine gate_callee (f := 44) rfl ?_); refine goesL_ (some 24) rfl rfl Try.func44 (by kernel_rfl) rfl #[.slice A0 l0.length c0, .int .i64 a1, .int .u8 2] rfl (by (try simp only [List.map_toArray, List.map_cons, List.map_nil]); first | done | rfl | (simp only [List.length_drop, List.length_take]; rfl)) ?_; (with_reducible refine (musterref27_find.calls k _ _ l0 a1 2 t216 t217 t218 t219 t220 t221 t222 t223 t224 _ ?side1 ?side2 A4.out).mono ?_); (case side1 => exact Kd.C_below HR0.out (by repeat (first | (with_reducible first | exact HB.out | apply below_alloc | apply pw_below_drewN | apply below_drew1 | refine below_set ?_ GE204.out | refine below_set ?_ GE205.out | refine below_set ?_ GE215.out) | exact HB.out))); (case side2 => exact HC0.out); rintro e w16 ⟨rfl, hb⟩; refine ⟨_, rfl, ?_⟩; have n0_ := Aside0.mk (blk_below (g := gb204) (o := .cells #[.int .i64 0, .string (⟨#[]⟩ : ByteArray), .string (⟨#[]⟩ : ByteArray), .int .i64 0, .int .i64 0, .int .u8 0, .int .i64 0, .int .i64 0, .int .i64 0] 56 (0, 0)) (by (with_reducible repeat (first | refine blk_drewN ?_ _ | refine blk_drew ?_ | refine blk_alloc ?_ _)); refine blk_far ?_ NB204_215.out _; (with_reducible repeat (first | refine blk_drewN ?_ _ | refine blk_drew ?_ | refine blk_alloc ?_ _)); refine blk_far ?_ NB204_215.out _; (with_reducible repeat (first | refine blk_drewN ?_ _ | refine blk_drew ?_ | refine blk_alloc ?_ _)); refine blk_far ?_ NB204_215.out _; (with_reducible repeat (first | refine blk_drewN ?_ _ | refine blk_drew ?_ | refine blk_alloc ?_ _)); refine blk_far ?_ NB204_215.out _; (with_reducible repeat (first | refine blk_drewN ?_ _ | refine blk_drew ?_ | refine blk_alloc ?_ _)); refine blk_far ?_ NB204_215.out _; (with_reducible repeat (first | refine blk_drewN ?_ _ | refine blk_drew ?_ | refine blk_alloc ?_ _)); refine blk_far ?_ NB204_215.out _; (with_reducible repeat (first | refine blk_drewN ?_ _ | refine blk_drew ?_ | refine blk_alloc ?_ _)); refine blk_far ?_ NB204_215.out _; (with_reducible repeat (first | refine blk_drewN ?_ _ | refine blk_drew ?_ | refine blk_alloc ?_ _)); refine blk_far ?_ NB204_215.out _; (with_reducible repeat (first | refine blk_drewN ?_ _ | refine blk_drew ?_ | refine blk_alloc ?_ _)); exact BK204.out) hb); have n1_ := Aside0.mk (blk_below (g := gb205) (o := .cells #[.int .i64 a1, .string (⟨#[]⟩ : ByteArray), .string (⟨#[]⟩ : ByteArray), .int .i64 0, .int .i64 0, .int .u8 1, .int .i64 (-1), .int .i64 (-1), .int .i64 (-1)] 56 (0, 0)) (by (with_reducible repeat (first | refine blk_drewN ?_ _ | refine blk_drew ?_ | refine blk_alloc ?_ _)); refine blk_far ?_ NB205_215.out _; (with_reducible repeat (first | refine blk_drewN ?_ _ | refine blk_drew ?_ | refine blk_alloc ?_ _)); refine blk_far ?_ NB205_215.out _; (with_reducible repeat (first | refine blk_drewN ?_ _ | refine blk_drew ?_ | refine blk_alloc ?_ _)); refine blk_far ?_ NB205_215.out _; (with_reducible repeat (first | refine blk_drewN ?_ _ | refine blk_drew ?_ | refine blk_alloc ?_ _)); refine blk_far ?_ NB205_215.out _; (with_reducible repeat (first | refine blk_drewN ?_ _ | refine blk_drew ?_ | refine blk_alloc ?_ _)); refine blk_far ?_ NB205_215.out _; (with_reducible repeat (first | refine blk_drewN ?_ _ | refine blk_drew ?_ | refine blk_alloc ?_ _)); refine blk_far ?_ NB205_215.out _; (with_reducible repeat (first | refine blk_drewN ?_ _ | refine blk_drew ?_ | refine blk_alloc ?_ _)); refine blk_far ?_ NB205_215.out _; (with_reducible repeat (first | refine blk_drewN ?_ _ | refine blk_drew ?_ | refine blk_alloc ?_ _)); refine blk_far ?_ NB205_215.out _; (with_reducible repeat (first | refine blk_drewN ?_ _ | refine blk_drew ?_ | refine blk_alloc ?_ _)); exact BK205.out) hb); have n2_ := Aside0.mk (blk_below (g := gb215) (o := .cells #[.int .i64 t206, .int .u8 t207, .int .i64 t208, .string t209, .string t210, .int .i64 t211, .int .i64 t212, .int .u8 t213] 36 (0, 0)) (by (with_reducible repeat (first | refine blk_drewN ?_ _ | refine blk_drew ?_ | refine blk_alloc ?_ _)); refine blk_put (cs := #[.int .i64 t206, .int .u8 t207, .int .i64 t208, .string t209, .string t210, .int .i64 t211, .int .i64 t212, .int .u8 0]) ?_ 7 _ rfl; (with_reducible repeat (first | refine blk_drewN ?_ _ | refine blk_drew ?_ | refine blk_alloc ?_ _)); refine blk_put (cs := #[.int .i64 t206, .int .u8 t207, .int .i64 t208, .string t209, .string t210, .int .i64 t211, .int .i64 0, .int .u8 0]) ?_ 6 _ rfl; (with_reducible repeat (first | refine blk_drewN ?_ _ | refine blk_drew ?_ | refine blk_alloc ?_ _)); refine blk_put (cs := #[.int .i64 t206, .int .u8 t207, .int .i64 t208, .string t209, .string t210, .int .i64 0, .int .i64 0, .int .u8 0]) ?_ 5 _ rfl; (with_reducible repeat (first | refine blk_drewN ?_ _ | refine blk_drew ?_ | refine blk_alloc ?_ _)); refine blk_put (cs := #[.int .i64 t206, .int .u8 t207, .int .i64 t208, .string t209, .string (⟨#[]⟩ : ByteArray), .int .i64 0, .int .i64 0, .int .u8 0]) ?_ 4 _ rfl; (with_reducible repeat (first | refine blk_drewN ?_ _ | refine blk_drew ?_ | refine blk_alloc ?_ _)); refine blk_put (cs := #[.int .i64 t206, .int .u8 t207, .int .i64 t208, .string (⟨#[]⟩ : ByteArray), .string (⟨#[]⟩ : ByteArray), .int .i64 0, .int .i64 0, .int .u8 0]) ?_ 3 _ rfl; (with_reducible repeat (first | refine blk_drewN ?_ _ | refine blk_drew ?_ | refine blk_alloc ?_ _)); refine blk_put (cs := #[.int .i64 t206, .int .u8 t207, .int .i64 0, .string (⟨#[]⟩ : ByteArray), .string (⟨#[]⟩ : ByteArray), .int .i64 0, .int .i64 0, .int .u8 0]) ?_ 2 _ rfl; (with_reducible repeat (first | refine blk_drewN ?_ _ | refine blk_drew ?_ | refine blk_alloc ?_ _)); refine blk_put (cs := #[.int .i64 t206, .int .u8 0, .int .i64 0, .string (⟨#[]⟩ : ByteArray), .string (⟨#[]⟩ : ByteArray), .int .i64 0, .int .i64 0, .int .u8 0]) ?_ 1 _ rfl; (with_reducible repeat (first | refine blk_drewN ?_ _ | refine blk_drew ?_ | refine blk_alloc ?_ _)); refine blk_put (cs := #[.int .i64 0, .int .u8 0, .int .i64 0, .string (⟨#[]⟩ : ByteArray), .string (⟨#[]⟩ : ByteArray), .int .i64 0, .int .i64 0, .int .u8 0]) ?_ 0 _ rfl; (with_reducible repeat (first | refine blk_drewN ?_ _ | refine blk_drew ?_ | refine blk_alloc ?_ _)); exact BK215.out) hb); have n3_ := Aside0.mk (below_step (by repeat (first | (with_reducible first | exact HB.out | apply below_alloc | apply pw_below_drewN | apply below_drew1 | refine below_set ?_ GE204.out | refine below_set ?_ GE205.out | refine below_set ?_ GE215.out) | exact HB.out)) hb); clear BK204; clear BK205; clear BK215; clear HB; have BK204 := n0_; have BK205 := n1_; have BK215 := n2_; have HB := n3_; clear n0_ n1_ n2_ n3_; (try clear hb); (try clear hb2); (try clear hk); (try clear hi)) | ((with_reducible refine gate_dst (N := 8) rfl ?_); refine box_event ?hg (N := 8) ?hd (cs := #[.int .i64 0, .int .u8 0, .int .i64 0, .string (⟨#[]⟩ : ByteArray), .string (⟨#[]⟩ : ByteArray), .int .i64 0, .int .i64 0, .int .u8 0]) (t := 36) ?hr ?_; (case hd => rfl); (case hg => rfl); (case hr => first | (go_simp; done) | (go_simp; rfl)); intro gb225 hg w17 hbox hb; have n0_ := Aside0.mk (blk_below (g := gb204) (o := .cells #[.int .i64 0, .string (⟨#[]⟩ : ByteArray), .string (⟨#[]⟩ : ByteArray), .int .i64 0, .int .i64 0, .int .u8 0, .int .i64 0, .int .i64 0, .int .i64 0] 56 (0, 0)) (by (with_reducible repeat (first | refine blk_drewN ?_ _ | refine blk_drew ?_ | refine blk_alloc ?_ _)); exact BK204.out) hb); have n1_ := Aside0.mk (blk_below (g := gb205) (o := .cells #[.int .i64 a1, .string (⟨#[]⟩ : ByteArray), .string (⟨#[]⟩ : ByteArray), .int .i64 0, .int .i64 0, .int .u8 1, .int .i64 (-1), .int .i64 (-1), .int .i64 (-1)] 56 (0, 0)) (by (with_reducible repeat (first | refine blk_drewN ?_ _ | refine blk_drew ?_ | refine blk_alloc ?_ _)); exact BK205.out) hb); have n2_ := Aside0.mk (blk_below (g := gb215) (o := .cells #[.int .i64 t206, .int .u8 t207, .int .i64 t208, .string t209, .string t210, .int .i64 t211, .int .i64 t212, .int .u8 t213] 36 (0, 0)) (by (with_reducible repeat (first | refine blk_drewN ?_ _ | refine blk_drew ?_ | refine blk_alloc ?_ _)); exact BK215.out) hb); have n3_ := Aside0.mk (below_step (by repeat (first | (with_reducible first | exact HB.out | apply below_alloc | apply pw_below_drewN | apply below_drew1 | refine below_set ?_ GE204.out | refine below_set ?_ GE205.out | refine below_set ?_ GE215.out) | exact HB.out)) hb); have n4_ := Aside0.mk (hbox); have n5_ := Aside0.mk ((by rw [hg]; exact (below_size (by repeat (first | (with_reducible first | exact HB.out | apply below_alloc | apply pw_below_drewN | apply below_drew1 | refine below_set ?_ GE204.out | refine below_set ?_ GE205.out | refine below_set ?_ GE215.out) | exact HB.out))) : w.heap.size ≤ gb225)); have n6_ := Aside0.mk ((by rw [hg]; exact (below_size (by repeat (first | (with_reducible first | exact HB.out | apply below_alloc | apply pw_below_drewN | apply below_drew1 | refine below_set ?_ GE204.out | refine below_set ?_ GE205.out | refine below_set ?_ GE215.out) | exact HB.out))) : w.heap.size ≤ gb225)); have n7_ := Aside0.mk ((by rw [hg]; exact Nat.ne_of_lt (blk_lt (g := gb204) (o := .cells #[.int .i64 0, .string (⟨#[]⟩ : ByteArray), .string (⟨#[]⟩ : ByteArray), .int .i64 0, .int .i64 0, .int .u8 0, .int .i64 0, .int .i64 0, .int .i64 0] 56 (0, 0)) (by (with_reducible repeat (first | refine blk_drewN ?_ _ | refine blk_drew ?_ | refine blk_alloc ?_ _)); exact BK204.out)) : gb204 ≠ gb225)); have n8_ := Aside0.mk ((by rw [hg]; exact Nat.ne_of_gt (blk_lt (g := gb204) (o := .cells #[.int .i64 0, .string (⟨#[]⟩ : ByteArray), .string (⟨#[]⟩ : ByteArray), .int .i64 0, .int .i64 0, .int .u8 0, .int .i64 0, .int .i64 0, .int .i64 0] 56 (0, 0)) (by (with_reducible repeat (first | refine blk_drewN ?_ _ | refine blk_drew ?_ | refine blk_alloc ?_ _)); exact BK204.out)) : gb225 ≠ gb204)); have n9_ := Aside0.mk ((by rw [hg]; exact Nat.ne_of_lt (blk_lt (g := gb205) (o := .cells #[.int .i64 a1, .string (⟨#[]⟩ : ByteArray), .string (⟨#[]⟩ : ByteArray), .int .i64 0, .int .i64 0, .int .u8 1, .int .i64 (-1), .int .i64 (-1), .int .i64 (-1)] 56 (0, 0)) (by (with_reducible repeat (first | refine blk_drewN ?_ _ | refine blk_drew ?_ | refine blk_alloc ?_ _)); exact BK205.out)) : gb205 ≠ gb225)); have n10_ := Aside0.mk ((by rw [hg]; exact Nat.ne_of_gt (blk_lt (g := gb205) (o := .cells #[.int .i64 a1, .string (⟨#[]⟩ : ByteArray), .string (⟨#[]⟩ : ByteArray), .int .i64 0, .int .i64 0, .int .u8 1, .int .i64 (-1), .int .i64 (-1), .int .i64 (-1)] 56 (0, 0)) (by (with_reducible repeat (first | refine blk_drewN ?_ _ | refine blk_drew ?_ | refine blk_alloc ?_ _)); exact BK205.out)) : gb225 ≠ gb205)); have n11_ := Aside0.mk ((by rw [hg]; exact Nat.ne_of_lt (blk_lt (g := gb215) (o := .cells #[.int .i64 t206, .int .u8 t207, .int .i64 t208, .string t209, .string t210, .int .i64 t211, .int .i64 t212, .int .u8 t213] 36 (0, 0)) (by (with_reducible repeat (first | refine blk_drewN ?_ _ | refine blk_drew ?_ | refine blk_alloc ?_ _)); exact BK215.out)) : gb215 ≠ gb225)); have n12_ := Aside0.mk ((by rw [hg]; exact Nat.ne_of_gt (blk_lt (g := gb215) (o := .cells #[.int .i64 t206, .int .u8 t207, .int .i64 t208, .string t209, .string t210, .int .i64 t211, .int .i64 t212, .int .u8 t213] 36 (0, 0)) (by (with_reducible repeat (first | refine blk_drewN ?_ _ | refine blk_drew ?_ | refine blk_alloc ?_ _)); exact BK215.out)) : gb225 ≠ gb215)); clear BK204; clear BK205; clear BK215; clear HB; have BK204 := n0_; have BK205 := n1_; have BK215 := n2_; have HB := n3_; have BK225 := n4_; have GW225 := n5_; have GE225 := n6_; have NB204_225 := n7_; have NB225_204 := n8_; have NB205_225 := n9_; have NB225_205 := n10_; have NB215_225 := n11_; have NB225_215 := n12_; clear n0_ n1_ n2_ n3_ n4_ n5_ n6_ n7_ n8_ n9_ n10_ n11_ n12_; clear hb hbox hg; have hnb18 := NB225_204.out; have hnc18 := NB204_225.out; have hnb19 := NB225_205.out; have hnc19 := NB205_225.out; have hnb20 := NB225_215.out; have hnc20 := NB215_225.out; have hcz21_0 : w17.cell? ⟨gb225, 0, none⟩ = some (.int .i64 0) := (blk_cell BK225.out 0).trans rfl; have hcz21_1 : w17.cell? ⟨gb225, 1, none⟩ = some (.int .u8 0) := (blk_cell BK225.out 1).trans rfl; have hcz21_2 : w17.cell? ⟨gb225, 2, none⟩ = some (.int .i64 0) := (blk_cell BK225.out 2).trans rfl; have hcz21_3 : w17.cell? ⟨gb225, 3, none⟩ = some (.string (⟨#[]⟩ : ByteArray)) := (blk_cell BK225.out 3).trans rfl; have hcz21_4 : w17.cell? ⟨gb225, 4, none⟩ = some (.string (⟨#[]⟩ : ByteArray)) := (blk_cell BK225.out 4).trans rfl; have hcz21_5 : w17.cell? ⟨gb225, 5, none⟩ = some (.int .i64 0) := (blk_cell BK225.out 5).trans rfl; have hcz21_6 : w17.cell? ⟨gb225, 6, none⟩ = some (.int .i64 0) := (blk_cell BK225.out 6).trans rfl; have hcz21_7 : w17.cell? ⟨gb225, 7, none⟩ = some (.int .u8 0) := (blk_cell BK225.out 7).trans rfl; have hfz21_0 := blk_frozen BK225.out 0; have hfz21_1 := blk_frozen BK225.out 1; have hfz21_2 := blk_frozen BK225.out 2; have hfz21_3 := blk_frozen BK225.out 3; have hfz21_4 := blk_frozen BK225.out 4; have hfz21_5 := blk_frozen BK225.out 5; have hfz21_6 := blk_frozen BK225.out 6; have hfz21_7 := blk_frozen BK225.out 7) | ((with_reducible refine gate_callee (f := 44) rfl ?_); refine goesL_ (some 30) rfl rfl Try.func44 (by kernel_rfl) rfl #[.slice A0 l0.length c0, .int .i64 a1, .int .u8 3] rfl (by (try simp only [List.map_toArray, List.map_cons, List.map_nil]); first | done | rfl | (simp only [List.length_drop, List.length_take]; rfl)) ?_; (with_reducible refine (musterref27_find.calls k _ _ l0 a1 3 t226 t227 t228 t229 t230 t231 t232 t233 t234 _ ?side1 ?side2 A5.out).mono ?_); (case side1 => exact Kd.C_below HR0.out (by repeat (first | (with_reducible first | exact HB.out | apply below_alloc | apply pw_below_drewN | apply below_drew1 | refine below_set ?_ GE204.out | refine below_set ?_ GE205.out | refine below_set ?_ GE215.out | refine below_set ?_ GE225.out) | exact HB.out))); (case side2 => exact HC0.out); rintro e w22 ⟨rfl, hb⟩; refine ⟨_, rfl, ?_⟩; have n0_ := Aside0.mk (blk_below (g := gb204) (o := .cells #[.int .i64 0, .string (⟨#[]⟩ : ByteArray), .string (⟨#[]⟩ : ByteArray), .int .i64 0, .int .i64 0, .int .u8 0, .int .i64 0, .int .i64 0, .int .i64 0] 56 (0, 0)) (by (with_reducible repeat (first | refine blk_drewN ?_ _ | refine blk_drew ?_ | refine blk_alloc ?_ _)); refine blk_far ?_ NB204_225.out _; (with_reducible repeat (first | refine blk_drewN ?_ _ | refine blk_drew ?_ | refine blk_alloc ?_ _)); refine blk_far ?_ NB204_225.out _; (with_reducible repeat (first | refine blk_drewN ?_ _ | refine blk_drew ?_ | refine blk_alloc ?_ _)); refine blk_far ?_ NB204_225.out _; (with_reducible repeat (first | refine blk_drewN ?_ _ | refine blk_drew ?_ | refine blk_alloc ?_ _)); refine blk_far ?_ NB204_225.out _; (with_reducible repeat (first | refine blk_drewN ?_ _ | refine blk_drew ?_ | refine blk_alloc ?_ _)); refine blk_far ?_ NB204_225.out _; (with_reducible repeat (first | refine blk_drewN ?_ _ | refine blk_drew ?_ | refine blk_alloc ?_ _)); refine blk_far ?_ NB204_225.out _; (with_reducible repeat (first | refine blk_drewN ?_ _ | refine blk_drew ?_ | refine blk_alloc ?_ _)); refine blk_far ?_ NB204_225.out _; (with_reducible repeat (first | refine blk_drewN ?_ _ | refine blk_drew ?_ | refine blk_alloc ?_ _)); refine blk_far ?_ NB204_225.out _; (with_reducible repeat (first | refine blk_drewN ?_ _ | refine blk_drew ?_ | refine blk_alloc ?_ _)); exact BK204.out) hb); have n1_ := Aside0.mk (blk_below (g := gb205) (o := .cells #[.int .i64 a1, .string (⟨#[]⟩ : ByteArray), .string (⟨#[]⟩ : ByteArray), .int .i64 0, .int .i64 0, .int .u8 1, .int .i64 (-1), .int .i64 (-1), .int .i64 (-1)] 56 (0, 0)) (by (with_reducible repeat (first | refine blk_drewN ?_ _ | refine blk_drew ?_ | refine blk_alloc ?_ _)); refine blk_far ?_ NB205_225.out _; (with_reducible repeat (first | refine blk_drewN ?_ _ | refine blk_drew ?_ | refine blk_alloc ?_ _)); refine blk_far ?_ NB205_225.out _; (with_reducible repeat (first | refine blk_drewN ?_ _ | refine blk_drew ?_ | refine blk_alloc ?_ _)); refine blk_far ?_ NB205_225.out _; (with_reducible repeat (first | refine blk_drewN ?_ _ | refine blk_drew ?_ | refine blk_alloc ?_ _)); refine blk_far ?_ NB205_225.out _; (with_reducible repeat (first | refine blk_drewN ?_ _ | refine blk_drew ?_ | refine blk_alloc ?_ _)); refine blk_far ?_ NB205_225.out _; (with_reducible repeat (first | refine blk_drewN ?_ _ | refine blk_drew ?_ | refine blk_alloc ?_ _)); refine blk_far ?_ NB205_225.out _; (with_reducible repeat (first | refine blk_drewN ?_ _ | refine blk_drew ?_ | refine blk_alloc ?_ _)); refine blk_far ?_ NB205_225.out _; (with_reducible repeat (first | refine blk_drewN ?_ _ | refine blk_drew ?_ | refine blk_alloc ?_ _)); refine blk_far ?_ NB205_225.out _; (with_reducible repeat (first | refine blk_drewN ?_ _ | refine blk_drew ?_ | refine blk_alloc ?_ _)); exact BK205.out) hb); have n2_ := Aside0.mk (blk_below (g := gb215) (o := .cells #[.int .i64 t206, .int .u8 t207, .int .i64 t208, .string t209, .string t210, .int .i64 t211, .int .i64 t212, .int .u8 t213] 36 (0, 0)) (by (with_reducible repeat (first | refine blk_drewN ?_ _ | refine blk_drew ?_ | refine blk_alloc ?_ _)); refine blk_far ?_ NB215_225.out _; (with_reducible repeat (first | refine blk_drewN ?_ _ | refine blk_drew ?_ | refine blk_alloc ?_ _)); refine blk_far ?_ NB215_225.out _; (with_reducible repeat (first | refine blk_drewN ?_ _ | refine blk_drew ?_ | refine blk_alloc ?_ _)); refine blk_far ?_ NB215_225.out _; (with_reducible repeat (first | refine blk_drewN ?_ _ | refine blk_drew ?_ | refine blk_alloc ?_ _)); refine blk_far ?_ NB215_225.out _; (with_reducible repeat (first | refine blk_drewN ?_ _ | refine blk_drew ?_ | refine blk_alloc ?_ _)); refine blk_far ?_ NB215_225.out _; (with_reducible repeat (first | refine blk_drewN ?_ _ | refine blk_drew ?_ | refine blk_alloc ?_ _)); refine blk_far ?_ NB215_225.out _; (with_reducible repeat (first | refine blk_drewN ?_ _ | refine blk_drew ?_ | refine blk_alloc ?_ _)); refine blk_far ?_ NB215_225.out _; (with_reducible repeat (first | refine blk_drewN ?_ _ | refine blk_drew ?_ | refine blk_alloc ?_ _)); refine blk_far ?_ NB215_225.out _; (with_reducible repeat (first | refine blk_drewN ?_ _ | refine blk_drew ?_ | refine blk_alloc ?_ _)); exact BK215.out) hb); have n3_ := Aside0.mk (blk_below (g := gb225) (o := .cells #[.int .i64 t216, .int .u8 t217, .int .i64 t218, .string t219, .string t220, .int .i64 t221, .int .i64 t222, .int .u8 t223] 36 (0, 0)) (by (with_reducible repeat (first | refine blk_drewN ?_ _ | refine blk_drew ?_ | refine blk_alloc ?_ _)); refine blk_put (cs := #[.int .i64 t216, .int .u8 t217, .int .i64 t218, .string t219, .string t220, .int .i64 t221, .int .i64 t222, .int .u8 0]) ?_ 7 _ rfl; (with_reducible repeat (first | refine blk_drewN ?_ _ | refine blk_drew ?_ | refine blk_alloc ?_ _)); refine blk_put (cs := #[.int .i64 t216, .int .u8 t217, .int .i64 t218, .string t219, .string t220, .int .i64 t221, .int .i64 0, .int .u8 0]) ?_ 6 _ rfl; (with_reducible repeat (first | refine blk_drewN ?_ _ | refine blk_drew ?_ | refine blk_alloc ?_ _)); refine blk_put (cs := #[.int .i64 t216, .int .u8 t217, .int .i64 t218, .string t219, .string t220, .int .i64 0, .int .i64 0, .int .u8 0]) ?_ 5 _ rfl; (with_reducible repeat (first | refine blk_drewN ?_ _ | refine blk_drew ?_ | refine blk_alloc ?_ _)); refine blk_put (cs := #[.int .i64 t216, .int .u8 t217, .int .i64 t218, .string t219, .string (⟨#[]⟩ : ByteArray), .int .i64 0, .int .i64 0, .int .u8 0]) ?_ 4 _ rfl; (with_reducible repeat (first | refine blk_drewN ?_ _ | refine blk_drew ?_ | refine blk_alloc ?_ _)); refine blk_put (cs := #[.int .i64 t216, .int .u8 t217, .int .i64 t218, .string (⟨#[]⟩ : ByteArray), .string (⟨#[]⟩ : ByteArray), .int .i64 0, .int .i64 0, .int .u8 0]) ?_ 3 _ rfl; (with_reducible repeat (first | refine blk_drewN ?_ _ | refine blk_drew ?_ | refine blk_alloc ?_ _)); refine blk_put (cs := #[.int .i64 t216, .int .u8 t217, .int .i64 0, .string (⟨#[]⟩ : ByteArray), .string (⟨#[]⟩ : ByteArray), .int .i64 0, .int .i64 0, .int .u8 0]) ?_ 2 _ rfl; (with_reducible repeat (first | refine blk_drewN ?_ _ | refine blk_drew ?_ | refine blk_alloc ?_ _)); refine blk_put (cs := #[.int .i64 t216, .int .u8 0, .int .i64 0, .string (⟨#[]⟩ : ByteArray), .string (⟨#[]⟩ : ByteArray), .int .i64 0, .int .i64 0, .int .u8 0]) ?_ 1 _ rfl; (with_reducible repeat (first | refine blk_drewN ?_ _ | refine blk_drew ?_ | refine blk_alloc ?_ _)); refine blk_put (cs := #[.int .i64 0, .int .u8 0, .int .i64 0, .string (⟨#[]⟩ : ByteArray), .string (⟨#[]⟩ : ByteArray), .int .i64 0, .int .i64 0, .int .u8 0]) ?_ 0 _ rfl; (with_reducible repeat (first | refine blk_drewN ?_ _ | refine blk_drew ?_ | refine blk_alloc ?_ _)); exact BK225.out) hb); have n4_ := Aside0.mk (below_step (by repeat (first | (with_reducible first | exact HB.out | apply below_alloc | apply pw_below_drewN | apply below_drew1 | refine below_set ?_ GE204.out | refine below_set ?_ GE205.out | refine below_set ?_ GE215.out | refine below_set ?_ GE225.out) | exact HB.out)) hb); clear BK204; clear BK205; clear BK215; clear BK225; clear HB; have BK204 := n0_; have BK205 := n1_; have BK215 := n2_; have BK225 := n3_; have HB := n4_; clear n0_ n1_ n2_ n3_ n4_; (try clear hb); (try clear hb2); (try clear hk); (try clear hi)) | ((with_reducible refine gate_dst (N := 10) rfl ?_); refine box_event ?hg (N := 10) ?hd (cs := #[.int .i64 0, .int .u8 0, .int .i64 0, .string (⟨#[]⟩ : ByteArray), .string (⟨#[]⟩ : ByteArray), .int .i64 0, .int .i64 0, .int .u8 0]) (t := 36) ?hr ?_; (case hd => rfl); (case hg => rfl); (case hr => first | (go_simp; done) | (go_simp; rfl)); intro gb235 hg w23 hbox hb; have n0_ := Aside0.mk (blk_below (g := gb204) (o := .cells #[.int .i64 0, .string (⟨#[]⟩ : ByteArray), .string (⟨#[]⟩ : ByteArray), .int .i64 0, .int .i64 0, .int .u8 0, .int .i64 0, .int .i64 0, .int .i64 0] 56 (0, 0)) (by (with_reducible repeat (first | refine blk_drewN ?_ _ | refine blk_drew ?_ | refine blk_alloc ?_ _)); exact BK204.out) hb); have n1_ := Aside0.mk (blk_below (g := gb205) (o := .cells #[.int .i64 a1, .string (⟨#[]⟩ : ByteArray), .string (⟨#[]⟩ : ByteArray), .int .i64 0, .int .i64 0, .int .u8 1, .int .i64 (-1), .int .i64 (-1), .int .i64 (-1)] 56 (0, 0)) (by (with_reducible repeat (first | refine blk_drewN ?_ _ | refine blk_drew ?_ | refine blk_alloc ?_ _)); exact BK205.out) hb); have n2_ := Aside0.mk (blk_below (g := gb215) (o := .cells #[.int .i64 t206, .int .u8 t207, .int .i64 t208, .string t209, .string t210, .int .i64 t211, .int .i64 t212, .int .u8 t213] 36 (0, 0)) (by (with_reducible repeat (first | refine blk_drewN ?_ _ | refine blk_drew ?_ | refine blk_alloc ?_ _)); exact BK215.out) hb); have n3_ := Aside0.mk (blk_below (g := gb225) (o := .cells #[.int .i64 t216, .int .u8 t217, .int .i64 t218, .string t219, .string t220, .int .i64 t221, .int .i64 t222, .int .u8 t223] 36 (0, 0)) (by (with_reducible repeat (first | refine blk_drewN ?_ _ | refine blk_drew ?_ | refine blk_alloc ?_ _)); exact BK225.out) hb); have n4_ := Aside0.mk (below_step (by repeat (first | (with_reducible first | exact HB.out | apply below_alloc | apply pw_below_drewN | apply below_drew1 | refine below_set ?_ GE204.out | refine below_set ?_ GE205.out | refine below_set ?_ GE215.out | refine below_set ?_ GE225.out) | exact HB.out)) hb); have n5_ := Aside0.mk (hbox); have n6_ := Aside0.mk ((by rw [hg]; exact (below_size (by repeat (first | (with_reducible first | exact HB.out | apply below_alloc | apply pw_below_drewN | apply below_drew1 | refine below_set ?_ GE204.out | refine below_set ?_ GE205.out | refine below_set ?_ GE215.out | refine below_set ?_ GE225.out) | exact HB.out))) : w.heap.size ≤ gb235)); have n7_ := Aside0.mk ((by rw [hg]; exact (below_size (by repeat (first | (with_reducible first | exact HB.out | apply below_alloc | apply pw_below_drewN | apply below_drew1 | refine below_set ?_ GE204.out | refine below_set ?_ GE205.out | refine below_set ?_ GE215.out | refine below_set ?_ GE225.out) | exact HB.out))) : w.heap.size ≤ gb235)); have n8_ := Aside0.mk ((by rw [hg]; exact Nat.ne_of_lt (blk_lt (g := gb204) (o := .cells #[.int .i64 0, .string (⟨#[]⟩ : ByteArray), .string (⟨#[]⟩ : ByteArray), .int .i64 0, .int .i64 0, .int .u8 0, .int .i64 0, .int .i64 0, .int .i64 0] 56 (0, 0)) (by (with_reducible repeat (first | refine blk_drewN ?_ _ | refine blk_drew ?_ | refine blk_alloc ?_ _)); exact BK204.out)) : gb204 ≠ gb235)); have n9_ := Aside0.mk ((by rw [hg]; exact Nat.ne_of_gt (blk_lt (g := gb204) (o := .cells #[.int .i64 0, .string (⟨#[]⟩ : ByteArray), .string (⟨#[]⟩ : ByteArray), .int .i64 0, .int .i64 0, .int .u8 0, .int .i64 0, .int .i64 0, .int .i64 0] 56 (0, 0)) (by (with_reducible repeat (first | refine blk_drewN ?_ _ | refine blk_drew ?_ | refine blk_alloc ?_ _)); exact BK204.out)) : gb235 ≠ gb204)); have n10_ := Aside0.mk ((by rw [hg]; exact Nat.ne_of_lt (blk_lt (g := gb205) (o := .cells #[.int .i64 a1, .string (⟨#[]⟩ : ByteArray), .string (⟨#[]⟩ : ByteArray), .int .i64 0, .int .i64 0, .int .u8 1, .int .i64 (-1), .int .i64 (-1), .int .i64 (-1)] 56 (0, 0)) (by (with_reducible repeat (first | refine blk_drewN ?_ _ | refine blk_drew ?_ | refine blk_alloc ?_ _)); exact BK205.out)) : gb205 ≠ gb235)); have n11_ := Aside0.mk ((by rw [hg]; exact Nat.ne_of_gt (blk_lt (g := gb205) (o := .cells #[.int .i64 a1, .string (⟨#[]⟩ : ByteArray), .string (⟨#[]⟩ : ByteArray), .int .i64 0, .int .i64 0, .int .u8 1, .int .i64 (-1), .int .i64 (-1), .int .i64 (-1)] 56 (0, 0)) (by (with_reducible repeat (first | refine blk_drewN ?_ _ | refine blk_drew ?_ | refine blk_alloc ?_ _)); exact BK205.out)) : gb235 ≠ gb205)); have n12_ := Aside0.mk ((by rw [hg]; exact Nat.ne_of_lt (blk_lt (g := gb215) (o := .cells #[.int .i64 t206, .int .u8 t207, .int .i64 t208, .string t209, .string t210, .int .i64 t211, .int .i64 t212, .int .u8 t213] 36 (0, 0)) (by (with_reducible repeat (first | refine blk_drewN ?_ _ | refine blk_drew ?_ | refine blk_alloc ?_ _)); exact BK215.out)) : gb215 ≠ gb235)); have n13_ := Aside0.mk ((by rw [hg]; exact Nat.ne_of_gt (blk_lt (g := gb215) (o := .cells #[.int .i64 t206, .int .u8 t207, .int .i64 t208, .string t209, .string t210, .int .i64 t211, .int .i64 t212, .int .u8 t213] 36 (0, 0)) (by (with_reducible repeat (first | refine blk_drewN ?_ _ | refine blk_drew ?_ | refine blk_alloc ?_ _)); exact BK215.out)) : gb235 ≠ gb215)); have n14_ := Aside0.mk ((by rw [hg]; exact Nat.ne_of_lt (blk_lt (g := gb225) (o := .cells #[.int .i64 t216, .int .u8 t217, .int .i64 t218, .string t219, .string t220, .int .i64 t221, .int .i64 t222, .int .u8 t223] 36 (0, 0)) (by (with_reducible repeat (first | refine blk_drewN ?_ _ | refine blk_drew ?_ | refine blk_alloc ?_ _)); exact BK225.out)) : gb225 ≠ gb235)); have n15_ := Aside0.mk ((by rw [hg]; exact Nat.ne_of_gt (blk_lt (g := gb225) (o := .cells #[.int .i64 t216, .int .u8 t217, .int .i64 t218, .string t219, .string t220, .int .i64 t221, .int .i64 t222, .int .u8 t223] 36 (0, 0)) (by (with_reducible repeat (first | refine blk_drewN ?_ _ | refine blk_drew ?_ | refine blk_alloc ?_ _)); exact BK225.out)) : gb235 ≠ gb225)); clear BK204; clear BK205; clear BK215; clear BK225; clear HB; have BK204 := n0_; have BK205 := n1_; have BK215 := n2_; have BK225 := n3_; have HB := n4_; have BK235 := n5_; have GW235 := n6_; have GE235 := n7_; have NB204_235 := n8_; have NB235_204 := n9_; have NB205_235 := n10_; have NB235_205 := n11_; have NB215_235 := n12_; have NB235_215 := n13_; have NB225_235 := n14_; have NB235_225 := n15_; clear n0_ n1_ n2_ n3_ n4_ n5_ n6_ n7_ n8_ n9_ n10_ n11_ n12_ n13_ n14_ n15_; clear hb hbox hg; have hnb24 := NB235_204.out; have hnc24 := NB204_235.out; have hnb25 := NB235_205.out; have hnc25 := NB205_235.out; have hnb26 := NB235_215.out; have hnc26 := NB215_235.out; have hnb27 := NB235_225.out; have hnc27 := NB225_235.out; have hcz28_0 : w23.cell? ⟨gb235, 0, none⟩ = some (.int .i64 0) := (blk_cell BK235.out 0).trans rfl; have hcz28_1 : w23.cell? ⟨gb235, 1, none⟩ = some (.int .u8 0) := (blk_cell BK235.out 1).trans rfl; have hcz28_2 : w23.cell? ⟨gb235, 2, none⟩ = some (.int .i64 0) := (blk_cell BK235.out 2).trans rfl; have hcz28_3 : w23.cell? ⟨gb235, 3, none⟩ = some (.string (⟨#[]⟩ : ByteArray)) := (blk_cell BK235.out 3).trans rfl; have hcz28_4 : w23.cell? ⟨gb235, 4, none⟩ = some (.string (⟨#[]⟩ : ByteArray)) := (blk_cell BK235.out 4).trans rfl; have hcz28_5 : w23.cell? ⟨gb235, 5, none⟩ = some (.int .i64 0) := (blk_cell BK235.out 5).trans rfl; have hcz28_6 : w23.cell? ⟨gb235, 6, none⟩ = some (.int .i64 0) := (blk_cell BK235.out 6).trans rfl; have hcz28_7 : w23.cell? ⟨gb235, 7, none⟩ = some (.int .u8 0) := (blk_cell BK235.out 7).trans rfl; have hfz28_0 := blk_frozen BK235.out 0; have hfz28_1 := blk_frozen BK235.out 1; have hfz28_2 := blk_frozen BK235.out 2; have hfz28_3 := blk_frozen BK235.out 3; have hfz28_4 := blk_frozen BK235.out 4; have hfz28_5 := blk_frozen BK235.out 5; have hfz28_6 := blk_frozen BK235.out 6; have hfz28_7 := blk_frozen BK235.out 7) | ((with_reducible refine gate_dst (N := 12) rfl ?_); refine box_event ?hg (N := 12) ?hd (cs := #[.int .i64 0, .int .u8 0, .int .i64 0, .string (⟨#[]⟩ : ByteArray), .string (⟨#[]⟩ : ByteArray), .int .i64 0, .int .i64 0, .int .u8 0]) (t := 36) ?hr ?_; (case hd => rfl); (case hg => rfl); (case hr => first | (go_simp; done) | (go_simp; rfl)); intro gb236 hg w29 hbox hb; have n0_ := Aside0.mk (blk_below (g := gb204) (o := .cells #[.int .i64 0, .string (⟨#[]⟩ : ByteArray), .string (⟨#[]⟩ : ByteArray), .int .i64 0, .int .i64 0, .int .u8 0, .int .i64 0, .int .i64 0, .int .i64 0] 56 (0, 0)) (by (with_reducible repeat (first | refine blk_drewN ?_ _ | refine blk_drew ?_ | refine blk_alloc ?_ _)); refine blk_far ?_ NB204_235.out _; (with_reducible repeat (first | refine blk_drewN ?_ _ | refine blk_drew ?_ | refine blk_alloc ?_ _)); refine blk_far ?_ NB204_235.out _; (with_reducible repeat (first | refine blk_drewN ?_ _ | refine blk_drew ?_ | refine blk_alloc ?_ _)); refine blk_far ?_ NB204_235.out _; (with_reducible repeat (first | refine blk_drewN ?_ _ | refine blk_drew ?_ | refine blk_alloc ?_ _)); refine blk_far ?_ NB204_235.out _; (with_reducible repeat (first | refine blk_drewN ?_ _ | refine blk_drew ?_ | refine blk_alloc ?_ _)); refine blk_far ?_ NB204_235.out _; (with_reducible repeat (first | refine blk_drewN ?_ _ | refine blk_drew ?_ | refine blk_alloc ?_ _)); refine blk_far ?_ NB204_235.out _; (with_reducible repeat (first | refine blk_drewN ?_ _ | refine blk_drew ?_ | refine blk_alloc ?_ _)); refine blk_far ?_ NB204_235.out _; (with_reducible repeat (first | refine blk_drewN ?_ _ | refine blk_drew ?_ | refine blk_alloc ?_ _)); refine blk_far ?_ NB204_235.out _; (with_reducible repeat (first | refine blk_drewN ?_ _ | refine blk_drew ?_ | refine blk_alloc ?_ _)); exact BK204.out) hb); have n1_ := Aside0.mk (blk_below (g := gb205) (o := .cells #[.int .i64 a1, .string (⟨#[]⟩ : ByteArray), .string (⟨#[]⟩ : ByteArray), .int .i64 0, .int .i64 0, .int .u8 1, .int .i64 (-1), .int .i64 (-1), .int .i64 (-1)] 56 (0, 0)) (by (with_reducible repeat (first | refine blk_drewN ?_ _ | refine blk_drew ?_ | refine blk_alloc ?_ _)); refine blk_far ?_ NB205_235.out _; (with_reducible repeat (first | refine blk_drewN ?_ _ | refine blk_drew ?_ | refine blk_alloc ?_ _)); refine blk_far ?_ NB205_235.out _; (with_reducible repeat (first | refine blk_drewN ?_ _ | refine blk_drew ?_ | refine blk_alloc ?_ _)); refine blk_far ?_ NB205_235.out _; (with_reducible repeat (first | refine blk_drewN ?_ _ | refine blk_drew ?_ | refine blk_alloc ?_ _)); refine blk_far ?_ NB205_235.out _; (with_reducible repeat (first | refine blk_drewN ?_ _ | refine blk_drew ?_ | refine blk_alloc ?_ _)); refine blk_far ?_ NB205_235.out _; (with_reducible repeat (first | refine blk_drewN ?_ _ | refine blk_drew ?_ | refine blk_alloc ?_ _)); refine blk_far ?_ NB205_235.out _; (with_reducible repeat (first | refine blk_drewN ?_ _ | refine blk_drew ?_ | refine blk_alloc ?_ _)); refine blk_far ?_ NB205_235.out _; (with_reducible repeat (first | refine blk_drewN ?_ _ | refine blk_drew ?_ | refine blk_alloc ?_ _)); refine blk_far ?_ NB205_235.out _; (with_reducible repeat (first | refine blk_drewN ?_ _ | refine blk_drew ?_ | refine blk_alloc ?_ _)); exact BK205.out) hb); have n2_ := Aside0.mk (blk_below (g := gb215) (o := .cells #[.int .i64 t206, .int .u8 t207, .int .i64 t208, .string t209, .string t210, .int .i64 t211, .int .i64 t212, .int .u8 t213] 36 (0, 0)) (by (with_reducible repeat (first | refine blk_drewN ?_ _ | refine blk_drew ?_ | refine blk_alloc ?_ _)); refine blk_far ?_ NB215_235.out _; (with_reducible repeat (first | refine blk_drewN ?_ _ | refine blk_drew ?_ | refine blk_alloc ?_ _)); refine blk_far ?_ NB215_235.out _; (with_reducible repeat (first | refine blk_drewN ?_ _ | refine blk_drew ?_ | refine blk_alloc ?_ _)); refine blk_far ?_ NB215_235.out _; (with_reducible repeat (first | refine blk_drewN ?_ _ | refine blk_drew ?_ | refine blk_alloc ?_ _)); refine blk_far ?_ NB215_235.out _; (with_reducible repeat (first | refine blk_drewN ?_ _ | refine blk_drew ?_ | refine blk_alloc ?_ _)); refine blk_far ?_ NB215_235.out _; (with_reducible repeat (first | refine blk_drewN ?_ _ | refine blk_drew ?_ | refine blk_alloc ?_ _)); refine blk_far ?_ NB215_235.out _; (with_reducible repeat (first | refine blk_drewN ?_ _ | refine blk_drew ?_ | refine blk_alloc ?_ _)); refine blk_far ?_ NB215_235.out _; (with_reducible repeat (first | refine blk_drewN ?_ _ | refine blk_drew ?_ | refine blk_alloc ?_ _)); refine blk_far ?_ NB215_235.out _; (with_reducible repeat (first | refine blk_drewN ?_ _ | refine blk_drew ?_ | refine blk_alloc ?_ _)); exact BK215.out) hb); have n3_ := Aside0.mk (blk_below (g := gb225) (o := .cells #[.int .i64 t216, .int .u8 t217, .int .i64 t218, .string t219, .string t220, .int .i64 t221, .int .i64 t222, .int .u8 t223] 36 (0, 0)) (by (with_reducible repeat (first | refine blk_drewN ?_ _ | refine blk_drew ?_ | refine blk_alloc ?_ _)); refine blk_far ?_ NB225_235.out _; (with_reducible repeat (first | refine blk_drewN ?_ _ | refine blk_drew ?_ | refine blk_alloc ?_ _)); refine blk_far ?_ NB225_235.out _; (with_reducible repeat (first | refine blk_drewN ?_ _ | refine blk_drew ?_ | refine blk_alloc ?_ _)); refine blk_far ?_ NB225_235.out _; (with_reducible repeat (first | refine blk_drewN ?_ _ | refine blk_drew ?_ | refine blk_alloc ?_ _)); refine blk_far ?_ NB225_235.out _; (with_reducible repeat (first | refine blk_drewN ?_ _ | refine blk_drew ?_ | refine blk_alloc ?_ _)); refine blk_far ?_ NB225_235.out _; (with_reducible repeat (first | refine blk_drewN ?_ _ | refine blk_drew ?_ | refine blk_alloc ?_ _)); refine blk_far ?_ NB225_235.out _; (with_reducible repeat (first | refine blk_drewN ?_ _ | refine blk_drew ?_ | refine blk_alloc ?_ _)); refine blk_far ?_ NB225_235.out _; (with_reducible repeat (first | refine blk_drewN ?_ _ | refine blk_drew ?_ | refine blk_alloc ?_ _)); refine blk_far ?_ NB225_235.out _; (with_reducible repeat (first | refine blk_drewN ?_ _ | refine blk_drew ?_ | refine blk_alloc ?_ _)); exact BK225.out) hb); have n4_ := Aside0.mk (blk_below (g := gb235) (o := .cells #[.int .i64 t226, .int .u8 t227, .int .i64 t228, .string t229, .string t230, .int .i64 t231, .int .i64 t232, .int .u8 t233] 36 (0, 0)) (by (with_reducible repeat (first | refine blk_drewN ?_ _ | refine blk_drew ?_ | refine blk_alloc ?_ _)); refine blk_put (cs := #[.int .i64 t226, .int .u8 t227, .int .i64 t228, .string t229, .string t230, .int .i64 t231, .int .i64 t232, .int .u8 0]) ?_ 7 _ rfl; (with_reducible repeat (first | refine blk_drewN ?_ _ | refine blk_drew ?_ | refine blk_alloc ?_ _)); refine blk_put (cs := #[.int .i64 t226, .int .u8 t227, .int .i64 t228, .string t229, .string t230, .int .i64 t231, .int .i64 0, .int .u8 0]) ?_ 6 _ rfl; (with_reducible repeat (first | refine blk_drewN ?_ _ | refine blk_drew ?_ | refine blk_alloc ?_ _)); refine blk_put (cs := #[.int .i64 t226, .int .u8 t227, .int .i64 t228, .string t229, .string t230, .int .i64 0, .int .i64 0, .int .u8 0]) ?_ 5 _ rfl; (with_reducible repeat (first | refine blk_drewN ?_ _ | refine blk_drew ?_ | refine blk_alloc ?_ _)); refine blk_put (cs := #[.int .i64 t226, .int .u8 t227, .int .i64 t228, .string t229, .string (⟨#[]⟩ : ByteArray), .int .i64 0, .int .i64 0, .int .u8 0]) ?_ 4 _ rfl; (with_reducible repeat (first | refine blk_drewN ?_ _ | refine blk_drew ?_ | refine blk_alloc ?_ _)); refine blk_put (cs := #[.int .i64 t226, .int .u8 t227, .int .i64 t228, .string (⟨#[]⟩ : ByteArray), .string (⟨#[]⟩ : ByteArray), .int .i64 0, .int .i64 0, .int .u8 0]) ?_ 3 _ rfl; (with_reducible repeat (first | refine blk_drewN ?_ _ | refine blk_drew ?_ | refine blk_alloc ?_ _)); refine blk_put (cs := #[.int .i64 t226, .int .u8 t227, .int .i64 0, .string (⟨#[]⟩ : ByteArray), .string (⟨#[]⟩ : ByteArray), .int .i64 0, .int .i64 0, .int .u8 0]) ?_ 2 _ rfl; (with_reducible repeat (first | refine blk_drewN ?_ _ | refine blk_drew ?_ | refine blk_alloc ?_ _)); refine blk_put (cs := #[.int .i64 t226, .int .u8 0, .int .i64 0, .string (⟨#[]⟩ : ByteArray), .string (⟨#[]⟩ : ByteArray), .int .i64 0, .int .i64 0, .int .u8 0]) ?_ 1 _ rfl; (with_reducible repeat (first | refine blk_drewN ?_ _ | refine blk_drew ?_ | refine blk_alloc ?_ _)); refine blk_put (cs := #[.int .i64 0, .int .u8 0, .int .i64 0, .string (⟨#[]⟩ : ByteArray), .string (⟨#[]⟩ : ByteArray), .int .i64 0, .int .i64 0, .int .u8 0]) ?_ 0 _ rfl; (with_reducible repeat (first | refine blk_drewN ?_ _ | refine blk_drew ?_ | refine blk_alloc ?_ _)); exact BK235.out) hb); have n5_ := Aside0.mk (below_step (by repeat (first | (with_reducible first | exact HB.out | apply below_alloc | apply pw_below_drewN | apply below_drew1 | refine below_set ?_ GE204.out | refine below_set ?_ GE205.out | refine below_set ?_ GE215.out | refine below_set ?_ GE225.out | refine below_set ?_ GE235.out) | exact HB.out)) hb); have n6_ := Aside0.mk (hbox); have n7_ := Aside0.mk ((by rw [hg]; exact (below_size (by repeat (first | (with_reducible first | exact HB.out | apply below_alloc | apply pw_below_drewN | apply below_drew1 | refine below_set ?_ GE204.out | refine below_set ?_ GE205.out | refine below_set ?_ GE215.out | refine below_set ?_ GE225.out | refine below_set ?_ GE235.out) | exact HB.out))) : w.heap.size ≤ gb236)); have n8_ := Aside0.mk ((by rw [hg]; exact (below_size (by repeat (first | (with_reducible first | exact HB.out | apply below_alloc | apply pw_below_drewN | apply below_drew1 | refine below_set ?_ GE204.out | refine below_set ?_ GE205.out | refine below_set ?_ GE215.out | refine below_set ?_ GE225.out | refine below_set ?_ GE235.out) | exact HB.out))) : w.heap.size ≤ gb236)); have n9_ := Aside0.mk ((by rw [hg]; exact Nat.ne_of_lt (blk_lt (g := gb204) (o := .cells #[.int .i64 0, .string (⟨#[]⟩ : ByteArray), .string (⟨#[]⟩ : ByteArray), .int .i64 0, .int .i64 0, .int .u8 0, .int .i64 0, .int .i64 0, .int .i64 0] 56 (0, 0)) (by (with_reducible repeat (first | refine blk_drewN ?_ _ | refine blk_drew ?_ | refine blk_alloc ?_ _)); refine blk_far ?_ NB204_235.out _; (with_reducible repeat (first | refine blk_drewN ?_ _ | refine blk_drew ?_ | refine blk_alloc ?_ _)); refine blk_far ?_ NB204_235.out _; (with_reducible repeat (first | refine blk_drewN ?_ _ | refine blk_drew ?_ | refine blk_alloc ?_ _)); refine blk_far ?_ NB204_235.out _; (with_reducible repeat (first | refine blk_drewN ?_ _ | refine blk_drew ?_ | refine blk_alloc ?_ _)); refine blk_far ?_ NB204_235.out _; (with_reducible repeat (first | refine blk_drewN ?_ _ | refine blk_drew ?_ | refine blk_alloc ?_ _)); refine blk_far ?_ NB204_235.out _; (with_reducible repeat (first | refine blk_drewN ?_ _ | refine blk_drew ?_ | refine blk_alloc ?_ _)); refine blk_far ?_ NB204_235.out _; (with_reducible repeat (first | refine blk_drewN ?_ _ | refine blk_drew ?_ | refine blk_alloc ?_ _)); refine blk_far ?_ NB204_235.out _; (with_reducible repeat (first | refine blk_drewN ?_ _ | refine blk_drew ?_ | refine blk_alloc ?_ _)); refine blk_far ?_ NB204_235.out _; (with_reducible repeat (first | refine blk_drewN ?_ _ | refine blk_drew ?_ | refine blk_alloc ?_ _)); exact BK204.out)) : gb204 ≠ gb236)); have n10_ := Aside0.mk ((by rw [hg]; exact Nat.ne_of_gt (blk_lt (g := gb204) (o := .cells #[.int .i64 0, .string (⟨#[]⟩ : ByteArray), .string (⟨#[]⟩ : ByteArray), .int .i64 0, .int .i64 0, .int .u8 0, .int .i64 0, .int .i64 0, .int .i64 0] 56 (0, 0)) (by (with_reducible repeat (first | refine blk_drewN ?_ _ | refine blk_drew ?_ | refine blk_alloc ?_ _)); refine blk_far ?_ NB204_235.out _; (with_reducible repeat (first | refine blk_drewN ?_ _ | refine blk_drew ?_ | refine blk_alloc ?_ _)); refine blk_far ?_ NB204_235.out _; (with_reducible repeat (first | refine blk_drewN ?_ _ | refine blk_drew ?_ | refine blk_alloc ?_ _)); refine blk_far ?_ NB204_235.out _; (with_reducible repeat (first | refine blk_drewN ?_ _ | refine blk_drew ?_ | refine blk_alloc ?_ _)); refine blk_far ?_ NB204_235.out _; (with_reducible repeat (first | refine blk_drewN ?_ _ | refine blk_drew ?_ | refine blk_alloc ?_ _)); refine blk_far ?_ NB204_235.out _; (with_reducible repeat (first | refine blk_drewN ?_ _ | refine blk_drew ?_ | refine blk_alloc ?_ _)); refine blk_far ?_ NB204_235.out _; (with_reducible repeat (first | refine blk_drewN ?_ _ | refine blk_drew ?_ | refine blk_alloc ?_ _)); refine blk_far ?_ NB204_235.out _; (with_reducible repeat (first | refine blk_drewN ?_ _ | refine blk_drew ?_ | refine blk_alloc ?_ _)); refine blk_far ?_ NB204_235.out _; (with_reducible repeat (first | refine blk_drewN ?_ _ | refine blk_drew ?_ | refine blk_alloc ?_ _)); exact BK204.out)) : gb236 ≠ gb204)); have n11_ := Aside0.mk ((by rw [hg]; exact Nat.ne_of_lt (blk_lt (g := gb205) (o := .cells #[.int .i64 a1, .string (⟨#[]⟩ : ByteArray), .string (⟨#[]⟩ : ByteArray), .int .i64 0, .int .i64 0, .int .u8 1, .int .i64 (-1), .int .i64 (-1), .int .i64 (-1)] 56 (0, 0)) (by (with_reducible repeat (first | refine blk_drewN ?_ _ | refine blk_drew ?_ | refine blk_alloc ?_ _)); refine blk_far ?_ NB205_235.out _; (with_reducible repeat (first | refine blk_drewN ?_ _ | refine blk_drew ?_ | refine blk_alloc ?_ _)); refine blk_far ?_ NB205_235.out _; (with_reducible repeat (first | refine blk_drewN ?_ _ | refine blk_drew ?_ | refine blk_alloc ?_ _)); refine blk_far ?_ NB205_235.out _; (with_reducible repeat (first | refine blk_drewN ?_ _ | refine blk_drew ?_ | refine blk_alloc ?_ _)); refine blk_far ?_ NB205_235.out _; (with_reducible repeat (first | refine blk_drewN ?_ _ | refine blk_drew ?_ | refine blk_alloc ?_ _)); refine blk_far ?_ NB205_235.out _; (with_reducible repeat (first | refine blk_drewN ?_ _ | refine blk_drew ?_ | refine blk_alloc ?_ _)); refine blk_far ?_ NB205_235.out _; (with_reducible repeat (first | refine blk_drewN ?_ _ | refine blk_drew ?_ | refine blk_alloc ?_ _)); refine blk_far ?_ NB205_235.out _; (with_reducible repeat (first | refine blk_drewN ?_ _ | refine blk_drew ?_ | refine blk_alloc ?_ _)); refine blk_far ?_ NB205_235.out _; (with_reducible repeat (first | refine blk_drewN ?_ _ | refine blk_drew ?_ | refine blk_alloc ?_ _)); exact BK205.out)) : gb205 ≠ gb236)); have n12_ := Aside0.mk ((by rw [hg]; exact Nat.ne_of_gt (blk_lt (g := gb205) (o := .cells #[.int .i64 a1, .string (⟨#[]⟩ : ByteArray), .string (⟨#[]⟩ : ByteArray), .int .i64 0, .int .i64 0, .int .u8 1, .int .i64 (-1), .int .i64 (-1), .int .i64 (-1)] 56 (0, 0)) (by (with_reducible repeat (first | refine blk_drewN ?_ _ | refine blk_drew ?_ | refine blk_alloc ?_ _)); refine blk_far ?_ NB205_235.out _; (with_reducible repeat (first | refine blk_drewN ?_ _ | refine blk_drew ?_ | refine blk_alloc ?_ _)); refine blk_far ?_ NB205_235.out _; (with_reducible repeat (first | refine blk_drewN ?_ _ | refine blk_drew ?_ | refine blk_alloc ?_ _)); refine blk_far ?_ NB205_235.out _; (with_reducible repeat (first | refine blk_drewN ?_ _ | refine blk_drew ?_ | refine blk_alloc ?_ _)); refine blk_far ?_ NB205_235.out _; (with_reducible repeat (first | refine blk_drewN ?_ _ | refine blk_drew ?_ | refine blk_alloc ?_ _)); refine blk_far ?_ NB205_235.out _; (with_reducible repeat (first | refine blk_drewN ?_ _ | refine blk_drew ?_ | refine blk_alloc ?_ _)); refine blk_far ?_ NB205_235.out _; (with_reducible repeat (first | refine blk_drewN ?_ _ | refine blk_drew ?_ | refine blk_alloc ?_ _)); refine blk_far ?_ NB205_235.out _; (with_reducible repeat (first | refine blk_drewN ?_ _ | refine blk_drew ?_ | refine blk_alloc ?_ _)); refine blk_far ?_ NB205_235.out _; (with_reducible repeat (first | refine blk_drewN ?_ _ | refine blk_drew ?_ | refine blk_alloc ?_ _)); exact BK205.out)) : gb236 ≠ gb205)); have n13_ := Aside0.mk ((by rw [hg]; exact Nat.ne_of_lt (blk_lt (g := gb215) (o := .cells #[.int .i64 t206, .int .u8 t207, .int .i64 t208, .string t209, .string t210, .int .i64 t211, .int .i64 t212, .int .u8 t213] 36 (0, 0)) (by (with_reducible repeat (first | refine blk_drewN ?_ _ | refine blk_drew ?_ | refine blk_alloc ?_ _)); refine blk_far ?_ NB215_235.out _; (with_reducible repeat (first | refine blk_drewN ?_ _ | refine blk_drew ?_ | refine blk_alloc ?_ _)); refine blk_far ?_ NB215_235.out _; (with_reducible repeat (first | refine blk_drewN ?_ _ | refine blk_drew ?_ | refine blk_alloc ?_ _)); refine blk_far ?_ NB215_235.out _; (with_reducible repeat (first | refine blk_drewN ?_ _ | refine blk_drew ?_ | refine blk_alloc ?_ _)); refine blk_far ?_ NB215_235.out _; (with_reducible repeat (first | refine blk_drewN ?_ _ | refine blk_drew ?_ | refine blk_alloc ?_ _)); refine blk_far ?_ NB215_235.out _; (with_reducible repeat (first | refine blk_drewN ?_ _ | refine blk_drew ?_ | refine blk_alloc ?_ _)); refine blk_far ?_ NB215_235.out _; (with_reducible repeat (first | refine blk_drewN ?_ _ | refine blk_drew ?_ | refine blk_alloc ?_ _)); refine blk_far ?_ NB215_235.out _; (with_reducible repeat (first | refine blk_drewN ?_ _ | refine blk_drew ?_ | refine blk_alloc ?_ _)); refine blk_far ?_ NB215_235.out _; (with_reducible repeat (first | refine blk_drewN ?_ _ | refine blk_drew ?_ | refine blk_alloc ?_ _)); exact BK215.out)) : gb215 ≠ gb236)); have n14_ := Aside0.mk ((by rw [hg]; exact Nat.ne_of_gt (blk_lt (g := gb215) (o := .cells #[.int .i64 t206, .int .u8 t207, .int .i64 t208, .string t209, .string t210, .int .i64 t211, .int .i64 t212, .int .u8 t213] 36 (0, 0)) (by (with_reducible repeat (first | refine blk_drewN ?_ _ | refine blk_drew ?_ | refine blk_alloc ?_ _)); refine blk_far ?_ NB215_235.out _; (with_reducible repeat (first | refine blk_drewN ?_ _ | refine blk_drew ?_ | refine blk_alloc ?_ _)); refine blk_far ?_ NB215_235.out _; (with_reducible repeat (first | refine blk_drewN ?_ _ | refine blk_drew ?_ | refine blk_alloc ?_ _)); refine blk_far ?_ NB215_235.out _; (with_reducible repeat (first | refine blk_drewN ?_ _ | refine blk_drew ?_ | refine blk_alloc ?_ _)); refine blk_far ?_ NB215_235.out _; (with_reducible repeat (first | refine blk_drewN ?_ _ | refine blk_drew ?_ | refine blk_alloc ?_ _)); refine blk_far ?_ NB215_235.out _; (with_reducible repeat (first | refine blk_drewN ?_ _ | refine blk_drew ?_ | refine blk_alloc ?_ _)); refine blk_far ?_ NB215_235.out _; (with_reducible repeat (first | refine blk_drewN ?_ _ | refine blk_drew ?_ | refine blk_alloc ?_ _)); refine blk_far ?_ NB215_235.out _; (with_reducible repeat (first | refine blk_drewN ?_ _ | refine blk_drew ?_ | refine blk_alloc ?_ _)); refine blk_far ?_ NB215_235.out _; (with_reducible repeat (first | refine blk_drewN ?_ _ | refine blk_drew ?_ | refine blk_alloc ?_ _)); exact BK215.out)) : gb236 ≠ gb215)); have n15_ := Aside0.mk ((by rw [hg]; exact Nat.ne_of_lt (blk_lt (g := gb225) (o := .cells #[.int .i64 t216, .int .u8 t217, .int .i64 t218, .string t219, .string t220, .int .i64 t221, .int .i64 t222, .int .u8 t223] 36 (0, 0)) (by (with_reducible repeat (first | refine blk_drewN ?_ _ | refine blk_drew ?_ | refine blk_alloc ?_ _)); refine blk_far ?_ NB225_235.out _; (with_reducible repeat (first | refine blk_drewN ?_ _ | refine blk_drew ?_ | refine blk_alloc ?_ _)); refine blk_far ?_ NB225_235.out _; (with_reducible repeat (first | refine blk_drewN ?_ _ | refine blk_drew ?_ | refine blk_alloc ?_ _)); refine blk_far ?_ NB225_235.out _; (with_reducible repeat (first | refine blk_drewN ?_ _ | refine blk_drew ?_ | refine blk_alloc ?_ _)); refine blk_far ?_ NB225_235.out _; (with_reducible repeat (first | refine blk_drewN ?_ _ | refine blk_drew ?_ | refine blk_alloc ?_ _)); refine blk_far ?_ NB225_235.out _; (with_reducible repeat (first | refine blk_drewN ?_ _ | refine blk_drew ?_ | refine blk_alloc ?_ _)); refine blk_far ?_ NB225_235.out _; (with_reducible repeat (first | refine blk_drewN ?_ _ | refine blk_drew ?_ | refine blk_alloc ?_ _)); refine blk_far ?_ NB225_235.out _; (with_reducible repeat (first | refine blk_drewN ?_ _ | refine blk_drew ?_ | refine blk_alloc ?_ _)); refine blk_far ?_ NB225_235.out _; (with_reducible repeat (first | refine blk_drewN ?_ _ | refine blk_drew ?_ | refine blk_alloc ?_ _)); exact BK225.out)) : gb225 ≠ gb236)); have n16_ := Aside0.mk ((by rw [hg]; exact Nat.ne_of_gt (blk_lt (g := gb225) (o := .cells #[.int .i64 t216, .int .u8 t217, .int .i64 t218, .string t219, .string t220, .int .i64 t221, .int .i64 t222, .int .u8 t223] 36 (0, 0)) (by (with_reducible repeat (first | refine blk_drewN ?_ _ | refine blk_drew ?_ | refine blk_alloc ?_ _)); refine blk_far ?_ NB225_235.out _; (with_reducible repeat (first | refine blk_drewN ?_ _ | refine blk_drew ?_ | refine blk_alloc ?_ _)); refine blk_far ?_ NB225_235.out _; (with_reducible repeat (first | refine blk_drewN ?_ _ | refine blk_drew ?_ | refine blk_alloc ?_ _)); refine blk_far ?_ NB225_235.out _; (with_reducible repeat (first | refine blk_drewN ?_ _ | refine blk_drew ?_ | refine blk_alloc ?_ _)); refine blk_far ?_ NB225_235.out _; (with_reducible repeat (first | refine blk_drewN ?_ _ | refine blk_drew ?_ | refine blk_alloc ?_ _)); refine blk_far ?_ NB225_235.out _; (with_reducible repeat (first | refine blk_drewN ?_ _ | refine blk_drew ?_ | refine blk_alloc ?_ _)); refine blk_far ?_ NB225_235.out _; (with_reducible repeat (first | refine blk_drewN ?_ _ | refine blk_drew ?_ | refine blk_alloc ?_ _)); refine blk_far ?_ NB225_235.out _; (with_reducible repeat (first | refine blk_drewN ?_ _ | refine blk_drew ?_ | refine blk_alloc ?_ _)); refine blk_far ?_ NB225_235.out _; (with_reducible repeat (first | refine blk_drewN ?_ _ | refine blk_drew ?_ | refine blk_alloc ?_ _)); exact BK225.out)) : gb236 ≠ gb225)); have n17_ := Aside0.mk ((by rw [hg]; exact Nat.ne_of_lt (blk_lt (g := gb235) (o := .cells #[.int .i64 t226, .int .u8 t227, .int .i64 t228, .string t229, .string t230, .int .i64 t231, .int .i64 t232, .int .u8 t233] 36 (0, 0)) (by (with_reducible repeat (first | refine blk_drewN ?_ _ | refine blk_drew ?_ | refine blk_alloc ?_ _)); refine blk_put (cs := #[.int .i64 t226, .int .u8 t227, .int .i64 t228, .string t229, .string t230, .int .i64 t231, .int .i64 t232, .int .u8 0]) ?_ 7 _ rfl; (with_reducible repeat (first | refine blk_drewN ?_ _ | refine blk_drew ?_ | refine blk_alloc ?_ _)); refine blk_put (cs := #[.int .i64 t226, .int .u8 t227, .int .i64 t228, .string t229, .string t230, .int .i64 t231, .int .i64 0, .int .u8 0]) ?_ 6 _ rfl; (with_reducible repeat (first | refine blk_drewN ?_ _ | refine blk_drew ?_ | refine blk_alloc ?_ _)); refine blk_put (cs := #[.int .i64 t226, .int .u8 t227, .int .i64 t228, .string t229, .string t230, .int .i64 0, .int .i64 0, .int .u8 0]) ?_ 5 _ rfl; (with_reducible repeat (first | refine blk_drewN ?_ _ | refine blk_drew ?_ | refine blk_alloc ?_ _)); refine blk_put (cs := #[.int .i64 t226, .int .u8 t227, .int .i64 t228, .string t229, .string (⟨#[]⟩ : ByteArray), .int .i64 0, .int .i64 0, .int .u8 0]) ?_ 4 _ rfl; (with_reducible repeat (first | refine blk_drewN ?_ _ | refine blk_drew ?_ | refine blk_alloc ?_ _)); refine blk_put (cs := #[.int .i64 t226, .int .u8 t227, .int .i64 t228, .string (⟨#[]⟩ : ByteArray), .string (⟨#[]⟩ : ByteArray), .int .i64 0, .int .i64 0, .int .u8 0]) ?_ 3 _ rfl; (with_reducible repeat (first | refine blk_drewN ?_ _ | refine blk_drew ?_ | refine blk_alloc ?_ _)); refine blk_put (cs := #[.int .i64 t226, .int .u8 t227, .int .i64 0, .string (⟨#[]⟩ : ByteArray), .string (⟨#[]⟩ : ByteArray), .int .i64 0, .int .i64 0, .int .u8 0]) ?_ 2 _ rfl; (with_reducible repeat (first | refine blk_drewN ?_ _ | refine blk_drew ?_ | refine blk_alloc ?_ _)); refine blk_put (cs := #[.int .i64 t226, .int .u8 0, .int .i64 0, .string (⟨#[]⟩ : ByteArray), .string (⟨#[]⟩ : ByteArray), .int .i64 0, .int .i64 0, .int .u8 0]) ?_ 1 _ rfl; (with_reducible repeat (first | refine blk_drewN ?_ _ | refine blk_drew ?_ | refine blk_alloc ?_ _)); refine blk_put (cs := #[.int .i64 0, .int .u8 0, .int .i64 0, .string (⟨#[]⟩ : ByteArray), .string (⟨#[]⟩ : ByteArray), .int .i64 0, .int .i64 0, .int .u8 0]) ?_ 0 _ rfl; (with_reducible repeat (first | refine blk_drewN ?_ _ | refine blk_drew ?_ | refine blk_alloc ?_ _)); exact BK235.out)) : gb235 ≠ gb236)); have n18_ := Aside0.mk ((by rw [hg]; exact Nat.ne_of_gt (blk_lt (g := gb235) (o := .cells #[.int .i64 t226, .int .u8 t227, .int .i64 t228, .string t229, .string t230, .int .i64 t231, .int .i64 t232, .int .u8 t233] 36 (0, 0)) (by (with_reducible repeat (first | refine blk_drewN ?_ _ | refine blk_drew ?_ | refine blk_alloc ?_ _)); refine blk_put (cs := #[.int .i64 t226, .int .u8 t227, .int .i64 t228, .string t229, .string t230, .int .i64 t231, .int .i64 t232, .int .u8 0]) ?_ 7 _ rfl; (with_reducible repeat (first | refine blk_drewN ?_ _ | refine blk_drew ?_ | refine blk_alloc ?_ _)); refine blk_put (cs := #[.int .i64 t226, .int .u8 t227, .int .i64 t228, .string t229, .string t230, .int .i64 t231, .int .i64 0, .int .u8 0]) ?_ 6 _ rfl; (with_reducible repeat (first | refine blk_drewN ?_ _ | refine blk_drew ?_ | refine blk_alloc ?_ _)); refine blk_put (cs := #[.int .i64 t226, .int .u8 t227, .int .i64 t228, .string t229, .string t230, .int .i64 0, .int .i64 0, .int .u8 0]) ?_ 5 _ rfl; (with_reducible repeat (first | refine blk_drewN ?_ _ | refine blk_drew ?_ | refine blk_alloc ?_ _)); refine blk_put (cs := #[.int .i64 t226, .int .u8 t227, .int .i64 t228, .string t229, .string (⟨#[]⟩ : ByteArray), .int .i64 0, .int .i64 0, .int .u8 0]) ?_ 4 _ rfl; (with_reducible repeat (first | refine blk_drewN ?_ _ | refine blk_drew ?_ | refine blk_alloc ?_ _)); refine blk_put (cs := #[.int .i64 t226, .int .u8 t227, .int .i64 t228, .string (⟨#[]⟩ : ByteArray), .string (⟨#[]⟩ : ByteArray), .int .i64 0, .int .i64 0, .int .u8 0]) ?_ 3 _ rfl; (with_reducible repeat (first | refine blk_drewN ?_ _ | refine blk_drew ?_ | refine blk_alloc ?_ _)); refine blk_put (cs := #[.int .i64 t226, .int .u8 t227, .int .i64 0, .string (⟨#[]⟩ : ByteArray), .string (⟨#[]⟩ : ByteArray), .int .i64 0, .int .i64 0, .int .u8 0]) ?_ 2 _ rfl; (with_reducible repeat (first | refine blk_drewN ?_ _ | refine blk_drew ?_ | refine blk_alloc ?_ _)); refine blk_put (cs := #[.int .i64 t226, .int .u8 0, .int .i64 0, .string (⟨#[]⟩ : ByteArray), .string (⟨#[]⟩ : ByteArray), .int .i64 0, .int .i64 0, .int .u8 0]) ?_ 1 _ rfl; (with_reducible repeat (first | refine blk_drewN ?_ _ | refine blk_drew ?_ | refine blk_alloc ?_ _)); refine blk_put (cs := #[.int .i64 0, .int .u8 0, .int .i64 0, .string (⟨#[]⟩ : ByteArray), .string (⟨#[]⟩ : ByteArray), .int .i64 0, .int .i64 0, .int .u8 0]) ?_ 0 _ rfl; (with_reducible repeat (first | refine blk_drewN ?_ _ | refine blk_drew ?_ | refine blk_alloc ?_ _)); exact BK235.out)) : gb236 ≠ gb235)); clear BK204; clear BK205; clear BK215; clear BK225; clear BK235; clear HB; have BK204 := n0_; have BK205 := n1_; have BK215 := n2_; have BK225 := n3_; have BK235 := n4_; have HB := n5_; have BK236 := n6_; have GW236 := n7_; have GE236 := n8_; have NB204_236 := n9_; have NB236_204 := n10_; have NB205_236 := n11_; have NB236_205 := n12_; have NB215_236 := n13_; have NB236_215 := n14_; have NB225_236 := n15_; have NB236_225 := n16_; have NB235_236 := n17_; have NB236_235 := n18_; clear n0_ n1_ n2_ n3_ n4_ n5_ n6_ n7_ n8_ n9_ n10_ n11_ n12_ n13_ n14_ n15_ n16_ n17_ n18_; clear hb hbox hg; have hnb30 := NB236_204.out; have hnc30 := NB204_236.out; have hnb31 := NB236_205.out; have hnc31 := NB205_236.out; have hnb32 := NB236_215.out; have hnc32 := NB215_236.out; have hnb33 := NB236_225.out; have hnc33 := NB225_236.out; have hnb34 := NB236_235.out; have hnc34 := NB235_236.out; have hcz35_0 : w29.cell? ⟨gb236, 0, none⟩ = some (.int .i64 0) := (blk_cell BK236.out 0).trans rfl; have hcz35_1 : w29.cell? ⟨gb236, 1, none⟩ = some (.int .u8 0) := (blk_cell BK236.out 1).trans rfl; have hcz35_2 : w29.cell? ⟨gb236, 2, none⟩ = some (.int .i64 0) := (blk_cell BK236.out 2).trans rfl; have hcz35_3 : w29.cell? ⟨gb236, 3, none⟩ = some (.string (⟨#[]⟩ : ByteArray)) := (blk_cell BK236.out 3).trans rfl; have hcz35_4 : w29.cell? ⟨gb236, 4, none⟩ = some (.string (⟨#[]⟩ : ByteArray)) := (blk_cell BK236.out 4).trans rfl; have hcz35_5 : w29.cell? ⟨gb236, 5, none⟩ = some (.int .i64 0) := (blk_cell BK236.out 5).trans rfl; have hcz35_6 : w29.cell? ⟨gb236, 6, none⟩ = some (.int .i64 0) := (blk_cell BK236.out 6).trans rfl; have hcz35_7 : w29.cell? ⟨gb236, 7, none⟩ = some (.int .u8 0) := (blk_cell BK236.out 7).trans rfl; have hfz35_0 := blk_frozen BK236.out 0; have hfz35_1 := blk_frozen BK236.out 1; have hfz35_2 := blk_frozen BK236.out 2; have hfz35_3 := blk_frozen BK236.out 3; have hfz35_4 := blk_frozen BK236.out 4; have hfz35_5 := blk_frozen BK236.out 5; have hfz35_6 := blk_frozen BK236.out 6; have hfz35_7 := blk_frozen BK236.out 7))
 (try simp only [Act.put, List.setIfInBounds_toArray, List.set_cons_zero, List.set_cons_succ])
 go_cut [] (fun wc => ∃ (kq : Nat) (x206005_5 : Int) (x206007_5 : Int) (x237000_5 : Int) (x237001_5 : Int) (x237002_5 : Int) (x237003_5 : ByteArray) (x237004_5 : ByteArray) (x237005_5 : Int) (x237006_5 : Int) (x237007_5 : Int), Aside0 (musterref27_run.j0 kq t214 t234 a1 (⟨#[]⟩ : ByteArray) (⟨#[]⟩ : ByteArray) 0 0 x206005_5 (-1) x206007_5 (-1) t206 t207 t208 t209 t210 t211 t212 t213 t226 t227 t228 t229 t230 t231 t232 t233 x237000_5 x237001_5 x237002_5 x237003_5 x237004_5 x237005_5 x237006_5 x237007_5 = some (r1, r2, r3, r4, r5, r6, r7, r8, r9)) ∧ Aside0 (kq ≤ k) ∧ Aside0 (wc.heap[gb204]? = some (.cells #[.int .i64 0, .string (⟨#[]⟩ : ByteArray), .string (⟨#[]⟩ : ByteArray), .int .i64 0, .int .i64 0, .int .u8 0, .int .i64 0, .int .i64 0, .int .i64 0] 56 (0, 0))) ∧ Aside0 (wc.heap[gb205]? = some (.cells #[.int .i64 a1, .string (⟨#[]⟩ : ByteArray), .string (⟨#[]⟩ : ByteArray), .int .i64 0, .int .i64 0, .int .u8 x206005_5, .int .i64 (-1), .int .i64 x206007_5, .int .i64 (-1)] 56 (0, 0))) ∧ Aside0 (wc.heap[gb215]? = some (.cells #[.int .i64 t206, .int .u8 t207, .int .i64 t208, .string t209, .string t210, .int .i64 t211, .int .i64 t212, .int .u8 t213] 36 (0, 0))) ∧ Aside0 (wc.heap[gb225]? = some (.cells #[.int .i64 t216, .int .u8 t217, .int .i64 t218, .string t219, .string t220, .int .i64 t221, .int .i64 t222, .int .u8 t223] 36 (0, 0))) ∧ Aside0 (wc.heap[gb235]? = some (.cells #[.int .i64 t226, .int .u8 t227, .int .i64 t228, .string t229, .string t230, .int .i64 t231, .int .i64 t232, .int .u8 t233] 36 (0, 0))) ∧ Aside0 (wc.heap[gb236]? = some (.cells #[.int .i64 x237000_5, .int .u8 x237001_5, .int .i64 x237002_5, .string x237003_5, .string x237004_5, .int .i64 x237005_5, .int .i64 x237006_5, .int .u8 x237007_5] 36 (0, 0))) ∧ Aside0 (Below w.heap.size w wc))
 case first =>
  have H := HC6.out
  clear HC6
  by_cases c36 : t224 = true
  ·subst c36
   have H1 : (musterref27_run.j0 k t214 t234 a1 (⟨#[]⟩ : ByteArray) (⟨#[]⟩ : ByteArray) 0 0 2 (-1) t218 (-1) t206 t207 t208 t209 t210 t211 t212 t213 t226 t227 t228 t229 t230 t231 t232 t233 t216 t217 t218 t219 t220 t221 t222 t223) = some (r1, r2, r3, r4, r5, r6, r7, r8, r9) := by rw [if_pos rfl] at H; exact H
   clear H
   have H := H1
   clear H1
   have H' := Aside0.mk H
   clear H
   have hnb37 := NB225_204.out
   have hnc37 := NB204_225.out
   have hnb38 := NB225_205.out
   have hnc38 := NB205_225.out
   have hnb39 := NB225_215.out
   have hnc39 := NB215_225.out
   have hnb40 := NB225_235.out
   have hnc40 := NB235_225.out
   have hnb41 := NB225_236.out
   have hnc41 := NB236_225.out
   have hcz42_0 : w29.cell? ⟨gb225, 0, none⟩ = some (.int .i64 t216) := (blk_cell BK225.out 0).trans rfl
   have hcz42_1 : w29.cell? ⟨gb225, 1, none⟩ = some (.int .u8 t217) := (blk_cell BK225.out 1).trans rfl
   have hcz42_2 : w29.cell? ⟨gb225, 2, none⟩ = some (.int .i64 t218) := (blk_cell BK225.out 2).trans rfl
   have hcz42_3 : w29.cell? ⟨gb225, 3, none⟩ = some (.string t219) := (blk_cell BK225.out 3).trans rfl
   have hcz42_4 : w29.cell? ⟨gb225, 4, none⟩ = some (.string t220) := (blk_cell BK225.out 4).trans rfl
   have hcz42_5 : w29.cell? ⟨gb225, 5, none⟩ = some (.int .i64 t221) := (blk_cell BK225.out 5).trans rfl
   have hcz42_6 : w29.cell? ⟨gb225, 6, none⟩ = some (.int .i64 t222) := (blk_cell BK225.out 6).trans rfl
   have hcz42_7 : w29.cell? ⟨gb225, 7, none⟩ = some (.int .u8 t223) := (blk_cell BK225.out 7).trans rfl
   have hfz42_0 := blk_frozen BK225.out 0
   have hfz42_1 := blk_frozen BK225.out 1
   have hfz42_2 := blk_frozen BK225.out 2
   have hfz42_3 := blk_frozen BK225.out 3
   have hfz42_4 := blk_frozen BK225.out 4
   have hfz42_5 := blk_frozen BK225.out 5
   have hfz42_6 := blk_frozen BK225.out 6
   have hfz42_7 := blk_frozen BK225.out 7
   have hnb43 := NB236_204.out
   have hnc43 := NB204_236.out
   have hnb44 := NB236_205.out
   have hnc44 := NB205_236.out
   have hnb45 := NB236_215.out
   have hnc45 := NB215_236.out
   have hnb46 := NB236_235.out
   have hnc46 := NB235_236.out
   have hcz47_0 : w29.cell? ⟨gb236, 0, none⟩ = some (.int .i64 0) := (blk_cell BK236.out 0).trans rfl
   have hcz47_1 : w29.cell? ⟨gb236, 1, none⟩ = some (.int .u8 0) := (blk_cell BK236.out 1).trans rfl
   have hcz47_2 : w29.cell? ⟨gb236, 2, none⟩ = some (.int .i64 0) := (blk_cell BK236.out 2).trans rfl
   have hcz47_3 : w29.cell? ⟨gb236, 3, none⟩ = some (.string (⟨#[]⟩ : ByteArray)) := (blk_cell BK236.out 3).trans rfl
   have hcz47_4 : w29.cell? ⟨gb236, 4, none⟩ = some (.string (⟨#[]⟩ : ByteArray)) := (blk_cell BK236.out 4).trans rfl
   have hcz47_5 : w29.cell? ⟨gb236, 5, none⟩ = some (.int .i64 0) := (blk_cell BK236.out 5).trans rfl
   have hcz47_6 : w29.cell? ⟨gb236, 6, none⟩ = some (.int .i64 0) := (blk_cell BK236.out 6).trans rfl
   have hcz47_7 : w29.cell? ⟨gb236, 7, none⟩ = some (.int .u8 0) := (blk_cell BK236.out 7).trans rfl
   have hfz47_0 := blk_frozen BK236.out 0
   have hfz47_1 := blk_frozen BK236.out 1
   have hfz47_2 := blk_frozen BK236.out 2
   have hfz47_3 := blk_frozen BK236.out 3
   have hfz47_4 := blk_frozen BK236.out 4
   have hfz47_5 := blk_frozen BK236.out 5
   have hfz47_6 := blk_frozen BK236.out 6
   have hfz47_7 := blk_frozen BK236.out 7
   have hnb48 := NB205_204.out
   have hnc48 := NB204_205.out
   have hnb49 := NB205_215.out
   have hnc49 := NB215_205.out
   have hnb50 := NB205_235.out
   have hnc50 := NB235_205.out
   have hcz51_0 : w29.cell? ⟨gb205, 0, none⟩ = some (.int .i64 a1) := (blk_cell BK205.out 0).trans rfl
   have hcz51_1 : w29.cell? ⟨gb205, 1, none⟩ = some (.string (⟨#[]⟩ : ByteArray)) := (blk_cell BK205.out 1).trans rfl
   have hcz51_2 : w29.cell? ⟨gb205, 2, none⟩ = some (.string (⟨#[]⟩ : ByteArray)) := (blk_cell BK205.out 2).trans rfl
   have hcz51_3 : w29.cell? ⟨gb205, 3, none⟩ = some (.int .i64 0) := (blk_cell BK205.out 3).trans rfl
   have hcz51_4 : w29.cell? ⟨gb205, 4, none⟩ = some (.int .i64 0) := (blk_cell BK205.out 4).trans rfl
   have hcz51_5 : w29.cell? ⟨gb205, 5, none⟩ = some (.int .u8 1) := (blk_cell BK205.out 5).trans rfl
   have hcz51_6 : w29.cell? ⟨gb205, 6, none⟩ = some (.int .i64 (-1)) := (blk_cell BK205.out 6).trans rfl
   have hcz51_7 : w29.cell? ⟨gb205, 7, none⟩ = some (.int .i64 (-1)) := (blk_cell BK205.out 7).trans rfl
   have hcz51_8 : w29.cell? ⟨gb205, 8, none⟩ = some (.int .i64 (-1)) := (blk_cell BK205.out 8).trans rfl
   have hfz51_0 := blk_frozen BK205.out 0
   have hfz51_1 := blk_frozen BK205.out 1
   have hfz51_2 := blk_frozen BK205.out 2
   have hfz51_3 := blk_frozen BK205.out 3
   have hfz51_4 := blk_frozen BK205.out 4
   have hfz51_5 := blk_frozen BK205.out 5
   have hfz51_6 := blk_frozen BK205.out 6
   have hfz51_7 := blk_frozen BK205.out 7
   have hfz51_8 := blk_frozen BK205.out 8
   go_wp2
   go_meet
   case rel => exact ⟨_, (2), (t218), (t216), (t217), (t218), (t219), (t220), (t221), (t222), (t223), H', ⟨by first | omega | exact Nat.le_refl _⟩, ⟨by (with_reducible repeat (first | refine blk_drewN ?_ _ | refine blk_drew ?_ | refine blk_alloc ?_ _)); refine blk_far ?_ NB204_205.out _; (with_reducible repeat (first | refine blk_drewN ?_ _ | refine blk_drew ?_ | refine blk_alloc ?_ _)); refine blk_far ?_ NB204_205.out _; (with_reducible repeat (first | refine blk_drewN ?_ _ | refine blk_drew ?_ | refine blk_alloc ?_ _)); refine blk_far ?_ NB204_236.out _; (with_reducible repeat (first | refine blk_drewN ?_ _ | refine blk_drew ?_ | refine blk_alloc ?_ _)); refine blk_far ?_ NB204_236.out _; (with_reducible repeat (first | refine blk_drewN ?_ _ | refine blk_drew ?_ | refine blk_alloc ?_ _)); refine blk_far ?_ NB204_236.out _; (with_reducible repeat (first | refine blk_drewN ?_ _ | refine blk_drew ?_ | refine blk_alloc ?_ _)); refine blk_far ?_ NB204_236.out _; (with_reducible repeat (first | refine blk_drewN ?_ _ | refine blk_drew ?_ | refine blk_alloc ?_ _)); refine blk_far ?_ NB204_236.out _; (with_reducible repeat (first | refine blk_drewN ?_ _ | refine blk_drew ?_ | refine blk_alloc ?_ _)); refine blk_far ?_ NB204_236.out _; (with_reducible repeat (first | refine blk_drewN ?_ _ | refine blk_drew ?_ | refine blk_alloc ?_ _)); refine blk_far ?_ NB204_236.out _; (with_reducible repeat (first | refine blk_drewN ?_ _ | refine blk_drew ?_ | refine blk_alloc ?_ _)); refine blk_far ?_ NB204_236.out _; (with_reducible repeat (first | refine blk_drewN ?_ _ | refine blk_drew ?_ | refine blk_alloc ?_ _)); refine blk_far ?_ NB204_236.out _; (with_reducible repeat (first | refine blk_drewN ?_ _ | refine blk_drew ?_ | refine blk_alloc ?_ _)); refine blk_far ?_ NB204_236.out _; (with_reducible repeat (first | refine blk_drewN ?_ _ | refine blk_drew ?_ | refine blk_alloc ?_ _)); refine blk_far ?_ NB204_236.out _; (with_reducible repeat (first | refine blk_drewN ?_ _ | refine blk_drew ?_ | refine blk_alloc ?_ _)); refine blk_far ?_ NB204_236.out _; (with_reducible repeat (first | refine blk_drewN ?_ _ | refine blk_drew ?_ | refine blk_alloc ?_ _)); refine blk_far ?_ NB204_236.out _; (with_reducible repeat (first | refine blk_drewN ?_ _ | refine blk_drew ?_ | refine blk_alloc ?_ _)); refine blk_far ?_ NB204_236.out _; (with_reducible repeat (first | refine blk_drewN ?_ _ | refine blk_drew ?_ | refine blk_alloc ?_ _)); refine blk_far ?_ NB204_236.out _; (with_reducible repeat (first | refine blk_drewN ?_ _ | refine blk_drew ?_ | refine blk_alloc ?_ _)); refine blk_far ?_ NB204_236.out _; (with_reducible repeat (first | refine blk_drewN ?_ _ | refine blk_drew ?_ | refine blk_alloc ?_ _)); exact BK204.out⟩, ⟨by (with_reducible repeat (first | refine blk_drewN ?_ _ | refine blk_drew ?_ | refine blk_alloc ?_ _)); refine blk_put (cs := #[.int .i64 a1, .string (⟨#[]⟩ : ByteArray), .string (⟨#[]⟩ : ByteArray), .int .i64 0, .int .i64 0, .int .u8 1, .int .i64 (-1), .int .i64 t218, .int .i64 (-1)]) ?_ 5 _ rfl; (with_reducible repeat (first | refine blk_drewN ?_ _ | refine blk_drew ?_ | refine blk_alloc ?_ _)); refine blk_put (cs := #[.int .i64 a1, .string (⟨#[]⟩ : ByteArray), .string (⟨#[]⟩ : ByteArray), .int .i64 0, .int .i64 0, .int .u8 1, .int .i64 (-1), .int .i64 (-1), .int .i64 (-1)]) ?_ 7 _ rfl; (with_reducible repeat (first | refine blk_drewN ?_ _ | refine blk_drew ?_ | refine blk_alloc ?_ _)); refine blk_far ?_ NB205_236.out _; (with_reducible repeat (first | refine blk_drewN ?_ _ | refine blk_drew ?_ | refine blk_alloc ?_ _)); refine blk_far ?_ NB205_236.out _; (with_reducible repeat (first | refine blk_drewN ?_ _ | refine blk_drew ?_ | refine blk_alloc ?_ _)); refine blk_far ?_ NB205_236.out _; (with_reducible repeat (first | refine blk_drewN ?_ _ | refine blk_drew ?_ | refine blk_alloc ?_ _)); refine blk_far ?_ NB205_236.out _; (with_reducible repeat (first | refine blk_drewN ?_ _ | refine blk_drew ?_ | refine blk_alloc ?_ _)); refine blk_far ?_ NB205_236.out _; (with_reducible repeat (first | refine blk_drewN ?_ _ | refine blk_drew ?_ | refine blk_alloc ?_ _)); refine blk_far ?_ NB205_236.out _; (with_reducible repeat (first | refine blk_drewN ?_ _ | refine blk_drew ?_ | refine blk_alloc ?_ _)); refine blk_far ?_ NB205_236.out _; (with_reducible repeat (first | refine blk_drewN ?_ _ | refine blk_drew ?_ | refine blk_alloc ?_ _)); refine blk_far ?_ NB205_236.out _; (with_reducible repeat (first | refine blk_drewN ?_ _ | refine blk_drew ?_ | refine blk_alloc ?_ _)); refine blk_far ?_ NB205_236.out _; (with_reducible repeat (first | refine blk_drewN ?_ _ | refine blk_drew ?_ | refine blk_alloc ?_ _)); refine blk_far ?_ NB205_236.out _; (with_reducible repeat (first | refine blk_drewN ?_ _ | refine blk_drew ?_ | refine blk_alloc ?_ _)); refine blk_far ?_ NB205_236.out _; (with_reducible repeat (first | refine blk_drewN ?_ _ | refine blk_drew ?_ | refine blk_alloc ?_ _)); refine blk_far ?_ NB205_236.out _; (with_reducible repeat (first | refine blk_drewN ?_ _ | refine blk_drew ?_ | refine blk_alloc ?_ _)); refine blk_far ?_ NB205_236.out _; (with_reducible repeat (first | refine blk_drewN ?_ _ | refine blk_drew ?_ | refine blk_alloc ?_ _)); refine blk_far ?_ NB205_236.out _; (with_reducible repeat (first | refine blk_drewN ?_ _ | refine blk_drew ?_ | refine blk_alloc ?_ _)); refine blk_far ?_ NB205_236.out _; (with_reducible repeat (first | refine blk_drewN ?_ _ | refine blk_drew ?_ | refine blk_alloc ?_ _)); refine blk_far ?_ NB205_236.out _; (with_reducible repeat (first | refine blk_drewN ?_ _ | refine blk_drew ?_ | refine blk_alloc ?_ _)); exact BK205.out⟩, ⟨by (with_reducible repeat (first | refine blk_drewN ?_ _ | refine blk_drew ?_ | refine blk_alloc ?_ _)); refine blk_far ?_ NB215_205.out _; (with_reducible repeat (first | refine blk_drewN ?_ _ | refine blk_drew ?_ | refine blk_alloc ?_ _)); refine blk_far ?_ NB215_205.out _; (with_reducible repeat (first | refine blk_drewN ?_ _ | refine blk_drew ?_ | refine blk_alloc ?_ _)); refine blk_far ?_ NB215_236.out _; (with_reducible repeat (first | refine blk_drewN ?_ _ | refine blk_drew ?_ | refine blk_alloc ?_ _)); refine blk_far ?_ NB215_236.out _; (with_reducible repeat (first | refine blk_drewN ?_ _ | refine blk_drew ?_ | refine blk_alloc ?_ _)); refine blk_far ?_ NB215_236.out _; (with_reducible repeat (first | refine blk_drewN ?_ _ | refine blk_drew ?_ | refine blk_alloc ?_ _)); refine blk_far ?_ NB215_236.out _; (with_reducible repeat (first | refine blk_drewN ?_ _ | refine blk_drew ?_ | refine blk_alloc ?_ _)); refine blk_far ?_ NB215_236.out _; (with_reducible repeat (first | refine blk_drewN ?_ _ | refine blk_drew ?_ | refine blk_alloc ?_ _)); refine blk_far ?_ NB215_236.out _; (with_reducible repeat (first | refine blk_drewN ?_ _ | refine blk_drew ?_ | refine blk_alloc ?_ _)); refine blk_far ?_ NB215_236.out _; (with_reducible repeat (first | refine blk_drewN ?_ _ | refine blk_drew ?_ | refine blk_alloc ?_ _)); refine blk_far ?_ NB215_236.out _; (with_reducible repeat (first | refine blk_drewN ?_ _ | refine blk_drew ?_ | refine blk_alloc ?_ _)); refine blk_far ?_ NB215_236.out _; (with_reducible repeat (first | refine blk_drewN ?_ _ | refine blk_drew ?_ | refine blk_alloc ?_ _)); refine blk_far ?_ NB215_236.out _; (with_reducible repeat (first | refine blk_drewN ?_ _ | refine blk_drew ?_ | refine blk_alloc ?_ _)); refine blk_far ?_ NB215_236.out _; (with_reducible repeat (first | refine blk_drewN ?_ _ | refine blk_drew ?_ | refine blk_alloc ?_ _)); refine blk_far ?_ NB215_236.out _; (with_reducible repeat (first | refine blk_drewN ?_ _ | refine blk_drew ?_ | refine blk_alloc ?_ _)); refine blk_far ?_ NB215_236.out _; (with_reducible repeat (first | refine blk_drewN ?_ _ | refine blk_drew ?_ | refine blk_alloc ?_ _)); refine blk_far ?_ NB215_236.out _; (with_reducible repeat (first | refine blk_drewN ?_ _ | refine blk_drew ?_ | refine blk_alloc ?_ _)); refine blk_far ?_ NB215_236.out _; (with_reducible repeat (first | refine blk_drewN ?_ _ | refine blk_drew ?_ | refine blk_alloc ?_ _)); refine blk_far ?_ NB215_236.out _; (with_reducible repeat (first | refine blk_drewN ?_ _ | refine blk_drew ?_ | refine blk_alloc ?_ _)); exact BK215.out⟩, ⟨by (with_reducible repeat (first | refine blk_drewN ?_ _ | refine blk_drew ?_ | refine blk_alloc ?_ _)); refine blk_far ?_ NB225_205.out _; (with_reducible repeat (first | refine blk_drewN ?_ _ | refine blk_drew ?_ | refine blk_alloc ?_ _)); refine blk_far ?_ NB225_205.out _; (with_reducible repeat (first | refine blk_drewN ?_ _ | refine blk_drew ?_ | refine blk_alloc ?_ _)); refine blk_far ?_ NB225_236.out _; (with_reducible repeat (first | refine blk_drewN ?_ _ | refine blk_drew ?_ | refine blk_alloc ?_ _)); refine blk_far ?_ NB225_236.out _; (with_reducible repeat (first | refine blk_drewN ?_ _ | refine blk_drew ?_ | refine blk_alloc ?_ _)); refine blk_far ?_ NB225_236.out _; (with_reducible repeat (first | refine blk_drewN ?_ _ | refine blk_drew ?_ | refine blk_alloc ?_ _)); refine blk_far ?_ NB225_236.out _; (with_reducible repeat (first | refine blk_drewN ?_ _ | refine blk_drew ?_ | refine blk_alloc ?_ _)); refine blk_far ?_ NB225_236.out _; (with_reducible repeat (first | refine blk_drewN ?_ _ | refine blk_drew ?_ | refine blk_alloc ?_ _)); refine blk_far ?_ NB225_236.out _; (with_reducible repeat (first | refine blk_drewN ?_ _ | refine blk_drew ?_ | refine blk_alloc ?_ _)); refine blk_far ?_ NB225_236.out _; (with_reducible repeat (first | refine blk_drewN ?_ _ | refine blk_drew ?_ | refine blk_alloc ?_ _)); refine blk_far ?_ NB225_236.out _; (with_reducible repeat (first | refine blk_drewN ?_ _ | refine blk_drew ?_ | refine blk_alloc ?_ _)); refine blk_far ?_ NB225_236.out _; (with_reducible repeat (first | refine blk_drewN ?_ _ | refine blk_drew ?_ | refine blk_alloc ?_ _)); refine blk_far ?_ NB225_236.out _; (with_reducible repeat (first | refine blk_drewN ?_ _ | refine blk_drew ?_ | refine blk_alloc ?_ _)); refine blk_far ?_ NB225_236.out _; (with_reducible repeat (first | refine blk_drewN ?_ _ | refine blk_drew ?_ | refine blk_alloc ?_ _)); refine blk_far ?_ NB225_236.out _; (with_reducible repeat (first | refine blk_drewN ?_ _ | refine blk_drew ?_ | refine blk_alloc ?_ _)); refine blk_far ?_ NB225_236.out _; (with_reducible repeat (first | refine blk_drewN ?_ _ | refine blk_drew ?_ | refine blk_alloc ?_ _)); refine blk_far ?_ NB225_236.out _; (with_reducible repeat (first | refine blk_drewN ?_ _ | refine blk_drew ?_ | refine blk_alloc ?_ _)); refine blk_far ?_ NB225_236.out _; (with_reducible repeat (first | refine blk_drewN ?_ _ | refine blk_drew ?_ | refine blk_alloc ?_ _)); refine blk_far ?_ NB225_236.out _; (with_reducible repeat (first | refine blk_drewN ?_ _ | refine blk_drew ?_ | refine blk_alloc ?_ _)); exact BK225.out⟩, ⟨by (with_reducible repeat (first | refine blk_drewN ?_ _ | refine blk_drew ?_ | refine blk_alloc ?_ _)); refine blk_far ?_ NB235_205.out _; (with_reducible repeat (first | refine blk_drewN ?_ _ | refine blk_drew ?_ | refine blk_alloc ?_ _)); refine blk_far ?_ NB235_205.out _; (with_reducible repeat (first | refine blk_drewN ?_ _ | refine blk_drew ?_ | refine blk_alloc ?_ _)); refine blk_far ?_ NB235_236.out _; (with_reducible repeat (first | refine blk_drewN ?_ _ | refine blk_drew ?_ | refine blk_alloc ?_ _)); refine blk_far ?_ NB235_236.out _; (with_reducible repeat (first | refine blk_drewN ?_ _ | refine blk_drew ?_ | refine blk_alloc ?_ _)); refine blk_far ?_ NB235_236.out _; (with_reducible repeat (first | refine blk_drewN ?_ _ | refine blk_drew ?_ | refine blk_alloc ?_ _)); refine blk_far ?_ NB235_236.out _; (with_reducible repeat (first | refine blk_drewN ?_ _ | refine blk_drew ?_ | refine blk_alloc ?_ _)); refine blk_far ?_ NB235_236.out _; (with_reducible repeat (first | refine blk_drewN ?_ _ | refine blk_drew ?_ | refine blk_alloc ?_ _)); refine blk_far ?_ NB235_236.out _; (with_reducible repeat (first | refine blk_drewN ?_ _ | refine blk_drew ?_ | refine blk_alloc ?_ _)); refine blk_far ?_ NB235_236.out _; (with_reducible repeat (first | refine blk_drewN ?_ _ | refine blk_drew ?_ | refine blk_alloc ?_ _)); refine blk_far ?_ NB235_236.out _; (with_reducible repeat (first | refine blk_drewN ?_ _ | refine blk_drew ?_ | refine blk_alloc ?_ _)); refine blk_far ?_ NB235_236.out _; (with_reducible repeat (first | refine blk_drewN ?_ _ | refine blk_drew ?_ | refine blk_alloc ?_ _)); refine blk_far ?_ NB235_236.out _; (with_reducible repeat (first | refine blk_drewN ?_ _ | refine blk_drew ?_ | refine blk_alloc ?_ _)); refine blk_far ?_ NB235_236.out _; (with_reducible repeat (first | refine blk_drewN ?_ _ | refine blk_drew ?_ | refine blk_alloc ?_ _)); refine blk_far ?_ NB235_236.out _; (with_reducible repeat (first | refine blk_drewN ?_ _ | refine blk_drew ?_ | refine blk_alloc ?_ _)); refine blk_far ?_ NB235_236.out _; (with_reducible repeat (first | refine blk_drewN ?_ _ | refine blk_drew ?_ | refine blk_alloc ?_ _)); refine blk_far ?_ NB235_236.out _; (with_reducible repeat (first | refine blk_drewN ?_ _ | refine blk_drew ?_ | refine blk_alloc ?_ _)); refine blk_far ?_ NB235_236.out _; (with_reducible repeat (first | refine blk_drewN ?_ _ | refine blk_drew ?_ | refine blk_alloc ?_ _)); refine blk_far ?_ NB235_236.out _; (with_reducible repeat (first | refine blk_drewN ?_ _ | refine blk_drew ?_ | refine blk_alloc ?_ _)); exact BK235.out⟩, ⟨by (with_reducible repeat (first | refine blk_drewN ?_ _ | refine blk_drew ?_ | refine blk_alloc ?_ _)); refine blk_far ?_ NB236_205.out _; (with_reducible repeat (first | refine blk_drewN ?_ _ | refine blk_drew ?_ | refine blk_alloc ?_ _)); refine blk_far ?_ NB236_205.out _; (with_reducible repeat (first | refine blk_drewN ?_ _ | refine blk_drew ?_ | refine blk_alloc ?_ _)); refine blk_put (cs := #[.int .i64 t216, .int .u8 t217, .int .i64 t218, .string t219, .string t220, .int .i64 t221, .int .i64 t222, .int .u8 t233]) ?_ 7 _ rfl; (with_reducible repeat (first | refine blk_drewN ?_ _ | refine blk_drew ?_ | refine blk_alloc ?_ _)); refine blk_put (cs := #[.int .i64 t216, .int .u8 t217, .int .i64 t218, .string t219, .string t220, .int .i64 t221, .int .i64 t232, .int .u8 t233]) ?_ 6 _ rfl; (with_reducible repeat (first | refine blk_drewN ?_ _ | refine blk_drew ?_ | refine blk_alloc ?_ _)); refine blk_put (cs := #[.int .i64 t216, .int .u8 t217, .int .i64 t218, .string t219, .string t220, .int .i64 t231, .int .i64 t232, .int .u8 t233]) ?_ 5 _ rfl; (with_reducible repeat (first | refine blk_drewN ?_ _ | refine blk_drew ?_ | refine blk_alloc ?_ _)); refine blk_put (cs := #[.int .i64 t216, .int .u8 t217, .int .i64 t218, .string t219, .string t230, .int .i64 t231, .int .i64 t232, .int .u8 t233]) ?_ 4 _ rfl; (with_reducible repeat (first | refine blk_drewN ?_ _ | refine blk_drew ?_ | refine blk_alloc ?_ _)); refine blk_put (cs := #[.int .i64 t216, .int .u8 t217, .int .i64 t218, .string t229, .string t230, .int .i64 t231, .int .i64 t232, .int .u8 t233]) ?_ 3 _ rfl; (with_reducible repeat (first | refine blk_drewN ?_ _ | refine blk_drew ?_ | refine blk_alloc ?_ _)); refine blk_put (cs := #[.int .i64 t216, .int .u8 t217, .int .i64 t228, .string t229, .string t230, .int .i64 t231, .int .i64 t232, .int .u8 t233]) ?_ 2 _ rfl; (with_reducible repeat (first | refine blk_drewN ?_ _ | refine blk_drew ?_ | refine blk_alloc ?_ _)); refine blk_put (cs := #[.int .i64 t216, .int .u8 t227, .int .i64 t228, .string t229, .string t230, .int .i64 t231, .int .i64 t232, .int .u8 t233]) ?_ 1 _ rfl; (with_reducible repeat (first | refine blk_drewN ?_ _ | refine blk_drew ?_ | refine blk_alloc ?_ _)); refine blk_put (cs := #[.int .i64 t226, .int .u8 t227, .int .i64 t228, .string t229, .string t230, .int .i64 t231, .int .i64 t232, .int .u8 t233]) ?_ 0 _ rfl; (with_reducible repeat (first | refine blk_drewN ?_ _ | refine blk_drew ?_ | refine blk_alloc ?_ _)); refine blk_put (cs := #[.int .i64 t226, .int .u8 t227, .int .i64 t228, .string t229, .string t230, .int .i64 t231, .int .i64 t232, .int .u8 0]) ?_ 7 _ rfl; (with_reducible repeat (first | refine blk_drewN ?_ _ | refine blk_drew ?_ | refine blk_alloc ?_ _)); refine blk_put (cs := #[.int .i64 t226, .int .u8 t227, .int .i64 t228, .string t229, .string t230, .int .i64 t231, .int .i64 0, .int .u8 0]) ?_ 6 _ rfl; (with_reducible repeat (first | refine blk_drewN ?_ _ | refine blk_drew ?_ | refine blk_alloc ?_ _)); refine blk_put (cs := #[.int .i64 t226, .int .u8 t227, .int .i64 t228, .string t229, .string t230, .int .i64 0, .int .i64 0, .int .u8 0]) ?_ 5 _ rfl; (with_reducible repeat (first | refine blk_drewN ?_ _ | refine blk_drew ?_ | refine blk_alloc ?_ _)); refine blk_put (cs := #[.int .i64 t226, .int .u8 t227, .int .i64 t228, .string t229, .string (⟨#[]⟩ : ByteArray), .int .i64 0, .int .i64 0, .int .u8 0]) ?_ 4 _ rfl; (with_reducible repeat (first | refine blk_drewN ?_ _ | refine blk_drew ?_ | refine blk_alloc ?_ _)); refine blk_put (cs := #[.int .i64 t226, .int .u8 t227, .int .i64 t228, .string (⟨#[]⟩ : ByteArray), .string (⟨#[]⟩ : ByteArray), .int .i64 0, .int .i64 0, .int .u8 0]) ?_ 3 _ rfl; (with_reducible repeat (first | refine blk_drewN ?_ _ | refine blk_drew ?_ | refine blk_alloc ?_ _)); refine blk_put (cs := #[.int .i64 t226, .int .u8 t227, .int .i64 0, .string (⟨#[]⟩ : ByteArray), .string (⟨#[]⟩ : ByteArray), .int .i64 0, .int .i64 0, .int .u8 0]) ?_ 2 _ rfl; (with_reducible repeat (first | refine blk_drewN ?_ _ | refine blk_drew ?_ | refine blk_alloc ?_ _)); refine blk_put (cs := #[.int .i64 t226, .int .u8 0, .int .i64 0, .string (⟨#[]⟩ : ByteArray), .string (⟨#[]⟩ : ByteArray), .int .i64 0, .int .i64 0, .int .u8 0]) ?_ 1 _ rfl; (with_reducible repeat (first | refine blk_drewN ?_ _ | refine blk_drew ?_ | refine blk_alloc ?_ _)); refine blk_put (cs := #[.int .i64 0, .int .u8 0, .int .i64 0, .string (⟨#[]⟩ : ByteArray), .string (⟨#[]⟩ : ByteArray), .int .i64 0, .int .i64 0, .int .u8 0]) ?_ 0 _ rfl; (with_reducible repeat (first | refine blk_drewN ?_ _ | refine blk_drew ?_ | refine blk_alloc ?_ _)); exact BK236.out⟩, ⟨by repeat (first | (with_reducible first | exact HB.out | apply below_alloc | apply pw_below_drewN | apply below_drew1 | refine below_set ?_ GE204.out | refine below_set ?_ GE205.out | refine below_set ?_ GE215.out | refine below_set ?_ GE225.out | refine below_set ?_ GE235.out | refine below_set ?_ GE236.out) | exact HB.out)⟩⟩
  ·replace c36 := Bool.eq_false_iff.mpr c36
   subst c36
   have H1 : (musterref27_run.j0 k t214 t234 a1 (⟨#[]⟩ : ByteArray) (⟨#[]⟩ : ByteArray) 0 0 1 (-1) (-1) (-1) t206 t207 t208 t209 t210 t211 t212 t213 t226 t227 t228 t229 t230 t231 t232 t233 t226 t227 t228 t229 t230 t231 t232 t233) = some (r1, r2, r3, r4, r5, r6, r7, r8, r9) := by rw [if_neg (show ¬ (false = true) by decide)] at H; exact H
   clear H
   have H := H1
   clear H1
   have H' := Aside0.mk H
   clear H
   go_wp2
   go_meet
   case rel => exact ⟨_, (1), ((-1)), (t226), (t227), (t228), (t229), (t230), (t231), (t232), (t233), H', ⟨by first | omega | exact Nat.le_refl _⟩, ⟨by (with_reducible repeat (first | refine blk_drewN ?_ _ | refine blk_drew ?_ | refine blk_alloc ?_ _)); refine blk_far ?_ NB204_236.out _; (with_reducible repeat (first | refine blk_drewN ?_ _ | refine blk_drew ?_ | refine blk_alloc ?_ _)); refine blk_far ?_ NB204_236.out _; (with_reducible repeat (first | refine blk_drewN ?_ _ | refine blk_drew ?_ | refine blk_alloc ?_ _)); refine blk_far ?_ NB204_236.out _; (with_reducible repeat (first | refine blk_drewN ?_ _ | refine blk_drew ?_ | refine blk_alloc ?_ _)); refine blk_far ?_ NB204_236.out _; (with_reducible repeat (first | refine blk_drewN ?_ _ | refine blk_drew ?_ | refine blk_alloc ?_ _)); refine blk_far ?_ NB204_236.out _; (with_reducible repeat (first | refine blk_drewN ?_ _ | refine blk_drew ?_ | refine blk_alloc ?_ _)); refine blk_far ?_ NB204_236.out _; (with_reducible repeat (first | refine blk_drewN ?_ _ | refine blk_drew ?_ | refine blk_alloc ?_ _)); refine blk_far ?_ NB204_236.out _; (with_reducible repeat (first | refine blk_drewN ?_ _ | refine blk_drew ?_ | refine blk_alloc ?_ _)); refine blk_far ?_ NB204_236.out _; (with_reducible repeat (first | refine blk_drewN ?_ _ | refine blk_drew ?_ | refine blk_alloc ?_ _)); exact BK204.out⟩, ⟨by (with_reducible repeat (first | refine blk_drewN ?_ _ | refine blk_drew ?_ | refine blk_alloc ?_ _)); refine blk_far ?_ NB205_236.out _; (with_reducible repeat (first | refine blk_drewN ?_ _ | refine blk_drew ?_ | refine blk_alloc ?_ _)); refine blk_far ?_ NB205_236.out _; (with_reducible repeat (first | refine blk_drewN ?_ _ | refine blk_drew ?_ | refine blk_alloc ?_ _)); refine blk_far ?_ NB205_236.out _; (with_reducible repeat (first | refine blk_drewN ?_ _ | refine blk_drew ?_ | refine blk_alloc ?_ _)); refine blk_far ?_ NB205_236.out _; (with_reducible repeat (first | refine blk_drewN ?_ _ | refine blk_drew ?_ | refine blk_alloc ?_ _)); refine blk_far ?_ NB205_236.out _; (with_reducible repeat (first | refine blk_drewN ?_ _ | refine blk_drew ?_ | refine blk_alloc ?_ _)); refine blk_far ?_ NB205_236.out _; (with_reducible repeat (first | refine blk_drewN ?_ _ | refine blk_drew ?_ | refine blk_alloc ?_ _)); refine blk_far ?_ NB205_236.out _; (with_reducible repeat (first | refine blk_drewN ?_ _ | refine blk_drew ?_ | refine blk_alloc ?_ _)); refine blk_far ?_ NB205_236.out _; (with_reducible repeat (first | refine blk_drewN ?_ _ | refine blk_drew ?_ | refine blk_alloc ?_ _)); exact BK205.out⟩, ⟨by (with_reducible repeat (first | refine blk_drewN ?_ _ | refine blk_drew ?_ | refine blk_alloc ?_ _)); refine blk_far ?_ NB215_236.out _; (with_reducible repeat (first | refine blk_drewN ?_ _ | refine blk_drew ?_ | refine blk_alloc ?_ _)); refine blk_far ?_ NB215_236.out _; (with_reducible repeat (first | refine blk_drewN ?_ _ | refine blk_drew ?_ | refine blk_alloc ?_ _)); refine blk_far ?_ NB215_236.out _; (with_reducible repeat (first | refine blk_drewN ?_ _ | refine blk_drew ?_ | refine blk_alloc ?_ _)); refine blk_far ?_ NB215_236.out _; (with_reducible repeat (first | refine blk_drewN ?_ _ | refine blk_drew ?_ | refine blk_alloc ?_ _)); refine blk_far ?_ NB215_236.out _; (with_reducible repeat (first | refine blk_drewN ?_ _ | refine blk_drew ?_ | refine blk_alloc ?_ _)); refine blk_far ?_ NB215_236.out _; (with_reducible repeat (first | refine blk_drewN ?_ _ | refine blk_drew ?_ | refine blk_alloc ?_ _)); refine blk_far ?_ NB215_236.out _; (with_reducible repeat (first | refine blk_drewN ?_ _ | refine blk_drew ?_ | refine blk_alloc ?_ _)); refine blk_far ?_ NB215_236.out _; (with_reducible repeat (first | refine blk_drewN ?_ _ | refine blk_drew ?_ | refine blk_alloc ?_ _)); exact BK215.out⟩, ⟨by (with_reducible repeat (first | refine blk_drewN ?_ _ | refine blk_drew ?_ | refine blk_alloc ?_ _)); refine blk_far ?_ NB225_236.out _; (with_reducible repeat (first | refine blk_drewN ?_ _ | refine blk_drew ?_ | refine blk_alloc ?_ _)); refine blk_far ?_ NB225_236.out _; (with_reducible repeat (first | refine blk_drewN ?_ _ | refine blk_drew ?_ | refine blk_alloc ?_ _)); refine blk_far ?_ NB225_236.out _; (with_reducible repeat (first | refine blk_drewN ?_ _ | refine blk_drew ?_ | refine blk_alloc ?_ _)); refine blk_far ?_ NB225_236.out _; (with_reducible repeat (first | refine blk_drewN ?_ _ | refine blk_drew ?_ | refine blk_alloc ?_ _)); refine blk_far ?_ NB225_236.out _; (with_reducible repeat (first | refine blk_drewN ?_ _ | refine blk_drew ?_ | refine blk_alloc ?_ _)); refine blk_far ?_ NB225_236.out _; (with_reducible repeat (first | refine blk_drewN ?_ _ | refine blk_drew ?_ | refine blk_alloc ?_ _)); refine blk_far ?_ NB225_236.out _; (with_reducible repeat (first | refine blk_drewN ?_ _ | refine blk_drew ?_ | refine blk_alloc ?_ _)); refine blk_far ?_ NB225_236.out _; (with_reducible repeat (first | refine blk_drewN ?_ _ | refine blk_drew ?_ | refine blk_alloc ?_ _)); exact BK225.out⟩, ⟨by (with_reducible repeat (first | refine blk_drewN ?_ _ | refine blk_drew ?_ | refine blk_alloc ?_ _)); refine blk_far ?_ NB235_236.out _; (with_reducible repeat (first | refine blk_drewN ?_ _ | refine blk_drew ?_ | refine blk_alloc ?_ _)); refine blk_far ?_ NB235_236.out _; (with_reducible repeat (first | refine blk_drewN ?_ _ | refine blk_drew ?_ | refine blk_alloc ?_ _)); refine blk_far ?_ NB235_236.out _; (with_reducible repeat (first | refine blk_drewN ?_ _ | refine blk_drew ?_ | refine blk_alloc ?_ _)); refine blk_far ?_ NB235_236.out _; (with_reducible repeat (first | refine blk_drewN ?_ _ | refine blk_drew ?_ | refine blk_alloc ?_ _)); refine blk_far ?_ NB235_236.out _; (with_reducible repeat (first | refine blk_drewN ?_ _ | refine blk_drew ?_ | refine blk_alloc ?_ _)); refine blk_far ?_ NB235_236.out _; (with_reducible repeat (first | refine blk_drewN ?_ _ | refine blk_drew ?_ | refine blk_alloc ?_ _)); refine blk_far ?_ NB235_236.out _; (with_reducible repeat (first | refine blk_drewN ?_ _ | refine blk_drew ?_ | refine blk_alloc ?_ _)); refine blk_far ?_ NB235_236.out _; (with_reducible repeat (first | refine blk_drewN ?_ _ | refine blk_drew ?_ | refine blk_alloc ?_ _)); exact BK235.out⟩, ⟨by (with_reducible repeat (first | refine blk_drewN ?_ _ | refine blk_drew ?_ | refine blk_alloc ?_ _)); refine blk_put (cs := #[.int .i64 t226, .int .u8 t227, .int .i64 t228, .string t229, .string t230, .int .i64 t231, .int .i64 t232, .int .u8 0]) ?_ 7 _ rfl; (with_reducible repeat (first | refine blk_drewN ?_ _ | refine blk_drew ?_ | refine blk_alloc ?_ _)); refine blk_put (cs := #[.int .i64 t226, .int .u8 t227, .int .i64 t228, .string t229, .string t230, .int .i64 t231, .int .i64 0, .int .u8 0]) ?_ 6 _ rfl; (with_reducible repeat (first | refine blk_drewN ?_ _ | refine blk_drew ?_ | refine blk_alloc ?_ _)); refine blk_put (cs := #[.int .i64 t226, .int .u8 t227, .int .i64 t228, .string t229, .string t230, .int .i64 0, .int .i64 0, .int .u8 0]) ?_ 5 _ rfl; (with_reducible repeat (first | refine blk_drewN ?_ _ | refine blk_drew ?_ | refine blk_alloc ?_ _)); refine blk_put (cs := #[.int .i64 t226, .int .u8 t227, .int .i64 t228, .string t229, .string (⟨#[]⟩ : ByteArray), .int .i64 0, .int .i64 0, .int .u8 0]) ?_ 4 _ rfl; (with_reducible repeat (first | refine blk_drewN ?_ _ | refine blk_drew ?_ | refine blk_alloc ?_ _)); refine blk_put (cs := #[.int .i64 t226, .int .u8 t227, .int .i64 t228, .string (⟨#[]⟩ : ByteArray), .string (⟨#[]⟩ : ByteArray), .int .i64 0, .int .i64 0, .int .u8 0]) ?_ 3 _ rfl; (with_reducible repeat (first | refine blk_drewN ?_ _ | refine blk_drew ?_ | refine blk_alloc ?_ _)); refine blk_put (cs := #[.int .i64 t226, .int .u8 t227, .int .i64 0, .string (⟨#[]⟩ : ByteArray), .string (⟨#[]⟩ : ByteArray), .int .i64 0, .int .i64 0, .int .u8 0]) ?_ 2 _ rfl; (with_reducible repeat (first | refine blk_drewN ?_ _ | refine blk_drew ?_ | refine blk_alloc ?_ _)); refine blk_put (cs := #[.int .i64 t226, .int .u8 0, .int .i64 0, .string (⟨#[]⟩ : ByteArray), .string (⟨#[]⟩ : ByteArray), .int .i64 0, .int .i64 0, .int .u8 0]) ?_ 1 _ rfl; (with_reducible repeat (first | refine blk_drewN ?_ _ | refine blk_drew ?_ | refine blk_alloc ?_ _)); refine blk_put (cs := #[.int .i64 0, .int .u8 0, .int .i64 0, .string (⟨#[]⟩ : ByteArray), .string (⟨#[]⟩ : ByteArray), .int .i64 0, .int .i64 0, .int .u8 0]) ?_ 0 _ rfl; (with_reducible repeat (first | refine blk_drewN ?_ _ | refine blk_drew ?_ | refine blk_alloc ?_ _)); exact BK236.out⟩, ⟨by repeat (first | (with_reducible first | exact HB.out | apply below_alloc | apply pw_below_drewN | apply below_drew1 | refine below_set ?_ GE204.out | refine below_set ?_ GE205.out | refine below_set ?_ GE215.out | refine below_set ?_ GE225.out | refine below_set ?_ GE235.out | refine below_set ?_ GE236.out) | exact HB.out)⟩⟩
 case rest =>
  clear HC6
  try clear c1
  try clear c2
  try clear p2
  try clear c3
  try clear c4
  try clear c5
  try clear c9
  try clear c13
  try clear c14
  try clear c18
  try clear c19
  try clear c20
  try clear c24
  try clear c25
  try clear c26
  try clear c27
  try clear c30
  try clear c31
  try clear c32
  try clear c33
  try clear c34
  try clear c36
  try clear c37
  try clear c38
  try clear c39
  try clear c40
  try clear c41
  try clear c43
  try clear c44
  try clear c45
  try clear c46
  try clear c48
  try clear c49
  try clear c50
  try clear hcz10_0
  try clear hcz10_1
  try clear hcz10_2
  try clear hcz10_3
  try clear hcz10_4
  try clear hcz10_5
  try clear hcz10_6
  try clear hcz10_7
  try clear hcz10_8
  try clear hcz15_0
  try clear hcz15_1
  try clear hcz15_2
  try clear hcz15_3
  try clear hcz15_4
  try clear hcz15_5
  try clear hcz15_6
  try clear hcz15_7
  try clear hcz21_0
  try clear hcz21_1
  try clear hcz21_2
  try clear hcz21_3
  try clear hcz21_4
  try clear hcz21_5
  try clear hcz21_6
  try clear hcz21_7
  try clear hcz28_0
  try clear hcz28_1
  try clear hcz28_2
  try clear hcz28_3
  try clear hcz28_4
  try clear hcz28_5
  try clear hcz28_6
  try clear hcz28_7
  try clear hcz35_0
  try clear hcz35_1
  try clear hcz35_2
  try clear hcz35_3
  try clear hcz35_4
  try clear hcz35_5
  try clear hcz35_6
  try clear hcz35_7
  try clear hcz42_0
  try clear hcz42_1
  try clear hcz42_2
  try clear hcz42_3
  try clear hcz42_4
  try clear hcz42_5
  try clear hcz42_6
  try clear hcz42_7
  try clear hcz47_0
  try clear hcz47_1
  try clear hcz47_2
  try clear hcz47_3
  try clear hcz47_4
  try clear hcz47_5
  try clear hcz47_6
  try clear hcz47_7
  try clear hcz51_0
  try clear hcz51_1
  try clear hcz51_2
  try clear hcz51_3
  try clear hcz51_4
  try clear hcz51_5
  try clear hcz51_6
  try clear hcz51_7
  try clear hcz51_8
  try clear hfz10_0
  try clear hfz10_1
  try clear hfz10_2
  try clear hfz10_3
  try clear hfz10_4
  try clear hfz10_5
  try clear hfz10_6
  try clear hfz10_7
  try clear hfz10_8
  try clear hfz15_0
  try clear hfz15_1
  try clear hfz15_2
  try clear hfz15_3
  try clear hfz15_4
  try clear hfz15_5
  try clear hfz15_6
  try clear hfz15_7
  try clear hfz21_0
  try clear hfz21_1
  try clear hfz21_2
  try clear hfz21_3
  try clear hfz21_4
  try clear hfz21_5
  try clear hfz21_6
  try clear hfz21_7
  try clear hfz28_0
  try clear hfz28_1
  try clear hfz28_2
  try clear hfz28_3
  try clear hfz28_4
  try clear hfz28_5
  try clear hfz28_6
  try clear hfz28_7
  try clear hfz35_0
  try clear hfz35_1
  try clear hfz35_2
  try clear hfz35_3
  try clear hfz35_4
  try clear hfz35_5
  try clear hfz35_6
  try clear hfz35_7
  try clear hfz42_0
  try clear hfz42_1
  try clear hfz42_2
  try clear hfz42_3
  try clear hfz42_4
  try clear hfz42_5
  try clear hfz42_6
  try clear hfz42_7
  try clear hfz47_0
  try clear hfz47_1
  try clear hfz47_2
  try clear hfz47_3
  try clear hfz47_4
  try clear hfz47_5
  try clear hfz47_6
  try clear hfz47_7
  try clear hfz51_0
  try clear hfz51_1
  try clear hfz51_2
  try clear hfz51_3
  try clear hfz51_4
  try clear hfz51_5
  try clear hfz51_6
  try clear hfz51_7
  try clear hfz51_8
  obtain ⟨kq, x206005_5, x206007_5, x237000_5, x237001_5, x237002_5, x237003_5, x237004_5, x237005_5, x237006_5, x237007_5, HA, HJ5, BK204, BK205, BK215, BK225, BK235, BK236, HB⟩ := hcut
  cases kq with
  | zero => exact absurd HA.out (by simp [musterref27_run.j0])
  | succ kj5 =>
   have H := HA.out
   clear HA
   simp only [musterref27_run.j0] at H
   by_cases c52 : t214 = true
   ·subst c52
    have H1 : (if t234 = true then (some (a1, t209, t210, t211, t212, t233, t208, x206007_5, t228)) else (some (a1, t209, t210, t211, t212, x206005_5, t208, x206007_5, (-1)))) = some (r1, r2, r3, r4, r5, r6, r7, r8, r9) := by rw [if_pos rfl] at H; exact H
    clear H
    have H := H1
    clear H1
    by_cases c53 : t234 = true
    ·subst c53
     have H1 : (some (a1, t209, t210, t211, t212, t233, t208, x206007_5, t228)) = some (r1, r2, r3, r4, r5, r6, r7, r8, r9) := by rw [if_pos rfl] at H; exact H
     clear H
     have H := H1
     clear H1
     simp only [Option.some.injEq, Prod.mk.injEq] at H
     obtain ⟨rfl, rfl, rfl, rfl, rfl, rfl, rfl, rfl, rfl⟩ := H
     have hnb54 := NB215_204.out
     have hnc54 := NB204_215.out
     have hnb55 := NB215_205.out
     have hnc55 := NB205_215.out
     have hnb56 := NB215_225.out
     have hnc56 := NB225_215.out
     have hnb57 := NB215_235.out
     have hnc57 := NB235_215.out
     have hnb58 := NB215_236.out
     have hnc58 := NB236_215.out
     have hcz59_0 : wc.cell? ⟨gb215, 0, none⟩ = some (.int .i64 t206) := (blk_cell BK215.out 0).trans rfl
     have hcz59_1 : wc.cell? ⟨gb215, 1, none⟩ = some (.int .u8 t207) := (blk_cell BK215.out 1).trans rfl
     have hcz59_2 : wc.cell? ⟨gb215, 2, none⟩ = some (.int .i64 t208) := (blk_cell BK215.out 2).trans rfl
     have hcz59_3 : wc.cell? ⟨gb215, 3, none⟩ = some (.string t209) := (blk_cell BK215.out 3).trans rfl
     have hcz59_4 : wc.cell? ⟨gb215, 4, none⟩ = some (.string t210) := (blk_cell BK215.out 4).trans rfl
     have hcz59_5 : wc.cell? ⟨gb215, 5, none⟩ = some (.int .i64 t211) := (blk_cell BK215.out 5).trans rfl
     have hcz59_6 : wc.cell? ⟨gb215, 6, none⟩ = some (.int .i64 t212) := (blk_cell BK215.out 6).trans rfl
     have hcz59_7 : wc.cell? ⟨gb215, 7, none⟩ = some (.int .u8 t213) := (blk_cell BK215.out 7).trans rfl
     have hfz59_0 := blk_frozen BK215.out 0
     have hfz59_1 := blk_frozen BK215.out 1
     have hfz59_2 := blk_frozen BK215.out 2
     have hfz59_3 := blk_frozen BK215.out 3
     have hfz59_4 := blk_frozen BK215.out 4
     have hfz59_5 := blk_frozen BK215.out 5
     have hfz59_6 := blk_frozen BK215.out 6
     have hfz59_7 := blk_frozen BK215.out 7
     have hnb60 := NB236_204.out
     have hnc60 := NB204_236.out
     have hnb61 := NB236_205.out
     have hnc61 := NB205_236.out
     have hnb62 := NB236_225.out
     have hnc62 := NB225_236.out
     have hnb63 := NB236_235.out
     have hnc63 := NB235_236.out
     have hcz64_0 : wc.cell? ⟨gb236, 0, none⟩ = some (.int .i64 x237000_5) := (blk_cell BK236.out 0).trans rfl
     have hcz64_1 : wc.cell? ⟨gb236, 1, none⟩ = some (.int .u8 x237001_5) := (blk_cell BK236.out 1).trans rfl
     have hcz64_2 : wc.cell? ⟨gb236, 2, none⟩ = some (.int .i64 x237002_5) := (blk_cell BK236.out 2).trans rfl
     have hcz64_3 : wc.cell? ⟨gb236, 3, none⟩ = some (.string x237003_5) := (blk_cell BK236.out 3).trans rfl
     have hcz64_4 : wc.cell? ⟨gb236, 4, none⟩ = some (.string x237004_5) := (blk_cell BK236.out 4).trans rfl
     have hcz64_5 : wc.cell? ⟨gb236, 5, none⟩ = some (.int .i64 x237005_5) := (blk_cell BK236.out 5).trans rfl
     have hcz64_6 : wc.cell? ⟨gb236, 6, none⟩ = some (.int .i64 x237006_5) := (blk_cell BK236.out 6).trans rfl
     have hcz64_7 : wc.cell? ⟨gb236, 7, none⟩ = some (.int .u8 x237007_5) := (blk_cell BK236.out 7).trans rfl
     have hfz64_0 := blk_frozen BK236.out 0
     have hfz64_1 := blk_frozen BK236.out 1
     have hfz64_2 := blk_frozen BK236.out 2
     have hfz64_3 := blk_frozen BK236.out 3
     have hfz64_4 := blk_frozen BK236.out 4
     have hfz64_5 := blk_frozen BK236.out 5
     have hfz64_6 := blk_frozen BK236.out 6
     have hfz64_7 := blk_frozen BK236.out 7
     have hnb65 := NB205_204.out
     have hnc65 := NB204_205.out
     have hnb66 := NB205_225.out
     have hnc66 := NB225_205.out
     have hnb67 := NB205_235.out
     have hnc67 := NB235_205.out
     have hcz68_0 : wc.cell? ⟨gb205, 0, none⟩ = some (.int .i64 a1) := (blk_cell BK205.out 0).trans rfl
     have hcz68_1 : wc.cell? ⟨gb205, 1, none⟩ = some (.string (⟨#[]⟩ : ByteArray)) := (blk_cell BK205.out 1).trans rfl
     have hcz68_2 : wc.cell? ⟨gb205, 2, none⟩ = some (.string (⟨#[]⟩ : ByteArray)) := (blk_cell BK205.out 2).trans rfl
     have hcz68_3 : wc.cell? ⟨gb205, 3, none⟩ = some (.int .i64 0) := (blk_cell BK205.out 3).trans rfl
     have hcz68_4 : wc.cell? ⟨gb205, 4, none⟩ = some (.int .i64 0) := (blk_cell BK205.out 4).trans rfl
     have hcz68_5 : wc.cell? ⟨gb205, 5, none⟩ = some (.int .u8 x206005_5) := (blk_cell BK205.out 5).trans rfl
     have hcz68_6 : wc.cell? ⟨gb205, 6, none⟩ = some (.int .i64 (-1)) := (blk_cell BK205.out 6).trans rfl
     have hcz68_7 : wc.cell? ⟨gb205, 7, none⟩ = some (.int .i64 x206007_5) := (blk_cell BK205.out 7).trans rfl
     have hcz68_8 : wc.cell? ⟨gb205, 8, none⟩ = some (.int .i64 (-1)) := (blk_cell BK205.out 8).trans rfl
     have hfz68_0 := blk_frozen BK205.out 0
     have hfz68_1 := blk_frozen BK205.out 1
     have hfz68_2 := blk_frozen BK205.out 2
     have hfz68_3 := blk_frozen BK205.out 3
     have hfz68_4 := blk_frozen BK205.out 4
     have hfz68_5 := blk_frozen BK205.out 5
     have hfz68_6 := blk_frozen BK205.out 6
     have hfz68_7 := blk_frozen BK205.out 7
     have hfz68_8 := blk_frozen BK205.out 8
     have hnb69 := NB235_204.out
     have hnc69 := NB204_235.out
     have hnb70 := NB235_225.out
     have hnc70 := NB225_235.out
     have hcz71_0 : wc.cell? ⟨gb235, 0, none⟩ = some (.int .i64 t226) := (blk_cell BK235.out 0).trans rfl
     have hcz71_1 : wc.cell? ⟨gb235, 1, none⟩ = some (.int .u8 t227) := (blk_cell BK235.out 1).trans rfl
     have hcz71_2 : wc.cell? ⟨gb235, 2, none⟩ = some (.int .i64 t228) := (blk_cell BK235.out 2).trans rfl
     have hcz71_3 : wc.cell? ⟨gb235, 3, none⟩ = some (.string t229) := (blk_cell BK235.out 3).trans rfl
     have hcz71_4 : wc.cell? ⟨gb235, 4, none⟩ = some (.string t230) := (blk_cell BK235.out 4).trans rfl
     have hcz71_5 : wc.cell? ⟨gb235, 5, none⟩ = some (.int .i64 t231) := (blk_cell BK235.out 5).trans rfl
     have hcz71_6 : wc.cell? ⟨gb235, 6, none⟩ = some (.int .i64 t232) := (blk_cell BK235.out 6).trans rfl
     have hcz71_7 : wc.cell? ⟨gb235, 7, none⟩ = some (.int .u8 t233) := (blk_cell BK235.out 7).trans rfl
     have hfz71_0 := blk_frozen BK235.out 0
     have hfz71_1 := blk_frozen BK235.out 1
     have hfz71_2 := blk_frozen BK235.out 2
     have hfz71_3 := blk_frozen BK235.out 3
     have hfz71_4 := blk_frozen BK235.out 4
     have hfz71_5 := blk_frozen BK235.out 5
     have hfz71_6 := blk_frozen BK235.out 6
     have hfz71_7 := blk_frozen BK235.out 7
     try go_wp2
     have n0_ : Aside0 ((((((((((((wc.setCell ⟨gb236, 0, none⟩ (.int .i64 t206)).setCell ⟨gb236, 1, none⟩ (.int .u8 t207)).setCell ⟨gb236, 2, none⟩ (.int .i64 t208)).setCell ⟨gb236, 3, none⟩ (.string t209)).setCell ⟨gb236, 4, none⟩ (.string t210)).setCell ⟨gb236, 5, none⟩ (.int .i64 t211)).setCell ⟨gb236, 6, none⟩ (.int .i64 t212)).setCell ⟨gb236, 7, none⟩ (.int .u8 t213)).setCell ⟨gb205, 6, none⟩ (.int .i64 t208)).setCell ⟨gb205, 8, none⟩ (.int .i64 t228)).setCell ⟨gb205, 5, none⟩ (.int .u8 t233)).heap[gb204]? = some (.cells #[.int .i64 0, .string (⟨#[]⟩ : ByteArray), .string (⟨#[]⟩ : ByteArray), .int .i64 0, .int .i64 0, .int .u8 0, .int .i64 0, .int .i64 0, .int .i64 0] 56 (0, 0))) := ⟨by (with_reducible repeat (first | refine blk_drewN ?_ _ | refine blk_drew ?_ | refine blk_alloc ?_ _)); refine blk_far ?_ NB204_205.out _; (with_reducible repeat (first | refine blk_drewN ?_ _ | refine blk_drew ?_ | refine blk_alloc ?_ _)); refine blk_far ?_ NB204_205.out _; (with_reducible repeat (first | refine blk_drewN ?_ _ | refine blk_drew ?_ | refine blk_alloc ?_ _)); refine blk_far ?_ NB204_205.out _; (with_reducible repeat (first | refine blk_drewN ?_ _ | refine blk_drew ?_ | refine blk_alloc ?_ _)); refine blk_far ?_ NB204_236.out _; (with_reducible repeat (first | refine blk_drewN ?_ _ | refine blk_drew ?_ | refine blk_alloc ?_ _)); refine blk_far ?_ NB204_236.out _; (with_reducible repeat (first | refine blk_drewN ?_ _ | refine blk_drew ?_ | refine blk_alloc ?_ _)); refine blk_far ?_ NB204_236.out _; (with_reducible repeat (first | refine blk_drewN ?_ _ | refine blk_drew ?_ | refine blk_alloc ?_ _)); refine blk_far ?_ NB204_236.out _; (with_reducible repeat (first | refine blk_drewN ?_ _ | refine blk_drew ?_ | refine blk_alloc ?_ _)); refine blk_far ?_ NB204_236.out _; (with_reducible repeat (first | refine blk_drewN ?_ _ | refine blk_drew ?_ | refine blk_alloc ?_ _)); refine blk_far ?_ NB204_236.out _; (with_reducible repeat (first | refine blk_drewN ?_ _ | refine blk_drew ?_ | refine blk_alloc ?_ _)); refine blk_far ?_ NB204_236.out _; (with_reducible repeat (first | refine blk_drewN ?_ _ | refine blk_drew ?_ | refine blk_alloc ?_ _)); refine blk_far ?_ NB204_236.out _; (with_reducible repeat (first | refine blk_drewN ?_ _ | refine blk_drew ?_ | refine blk_alloc ?_ _)); exact BK204.out⟩
     have n1_ : Aside0 ((((((((((((wc.setCell ⟨gb236, 0, none⟩ (.int .i64 t206)).setCell ⟨gb236, 1, none⟩ (.int .u8 t207)).setCell ⟨gb236, 2, none⟩ (.int .i64 t208)).setCell ⟨gb236, 3, none⟩ (.string t209)).setCell ⟨gb236, 4, none⟩ (.string t210)).setCell ⟨gb236, 5, none⟩ (.int .i64 t211)).setCell ⟨gb236, 6, none⟩ (.int .i64 t212)).setCell ⟨gb236, 7, none⟩ (.int .u8 t213)).setCell ⟨gb205, 6, none⟩ (.int .i64 t208)).setCell ⟨gb205, 8, none⟩ (.int .i64 t228)).setCell ⟨gb205, 5, none⟩ (.int .u8 t233)).heap[gb205]? = some (.cells #[.int .i64 a1, .string (⟨#[]⟩ : ByteArray), .string (⟨#[]⟩ : ByteArray), .int .i64 0, .int .i64 0, .int .u8 t233, .int .i64 t208, .int .i64 x206007_5, .int .i64 t228] 56 (0, 0))) := ⟨by (with_reducible repeat (first | refine blk_drewN ?_ _ | refine blk_drew ?_ | refine blk_alloc ?_ _)); refine blk_put (cs := #[.int .i64 a1, .string (⟨#[]⟩ : ByteArray), .string (⟨#[]⟩ : ByteArray), .int .i64 0, .int .i64 0, .int .u8 x206005_5, .int .i64 t208, .int .i64 x206007_5, .int .i64 t228]) ?_ 5 _ rfl; (with_reducible repeat (first | refine blk_drewN ?_ _ | refine blk_drew ?_ | refine blk_alloc ?_ _)); refine blk_put (cs := #[.int .i64 a1, .string (⟨#[]⟩ : ByteArray), .string (⟨#[]⟩ : ByteArray), .int .i64 0, .int .i64 0, .int .u8 x206005_5, .int .i64 t208, .int .i64 x206007_5, .int .i64 (-1)]) ?_ 8 _ rfl; (with_reducible repeat (first | refine blk_drewN ?_ _ | refine blk_drew ?_ | refine blk_alloc ?_ _)); refine blk_put (cs := #[.int .i64 a1, .string (⟨#[]⟩ : ByteArray), .string (⟨#[]⟩ : ByteArray), .int .i64 0, .int .i64 0, .int .u8 x206005_5, .int .i64 (-1), .int .i64 x206007_5, .int .i64 (-1)]) ?_ 6 _ rfl; (with_reducible repeat (first | refine blk_drewN ?_ _ | refine blk_drew ?_ | refine blk_alloc ?_ _)); refine blk_far ?_ NB205_236.out _; (with_reducible repeat (first | refine blk_drewN ?_ _ | refine blk_drew ?_ | refine blk_alloc ?_ _)); refine blk_far ?_ NB205_236.out _; (with_reducible repeat (first | refine blk_drewN ?_ _ | refine blk_drew ?_ | refine blk_alloc ?_ _)); refine blk_far ?_ NB205_236.out _; (with_reducible repeat (first | refine blk_drewN ?_ _ | refine blk_drew ?_ | refine blk_alloc ?_ _)); refine blk_far ?_ NB205_236.out _; (with_reducible repeat (first | refine blk_drewN ?_ _ | refine blk_drew ?_ | refine blk_alloc ?_ _)); refine blk_far ?_ NB205_236.out _; (with_reducible repeat (first | refine blk_drewN ?_ _ | refine blk_drew ?_ | refine blk_alloc ?_ _)); refine blk_far ?_ NB205_236.out _; (with_reducible repeat (first | refine blk_drewN ?_ _ | refine blk_drew ?_ | refine blk_alloc ?_ _)); refine blk_far ?_ NB205_236.out _; (with_reducible repeat (first | refine blk_drewN ?_ _ | refine blk_drew ?_ | refine blk_alloc ?_ _)); refine blk_far ?_ NB205_236.out _; (with_reducible repeat (first | refine blk_drewN ?_ _ | refine blk_drew ?_ | refine blk_alloc ?_ _)); exact BK205.out⟩
     have n2_ : Aside0 ((((((((((((wc.setCell ⟨gb236, 0, none⟩ (.int .i64 t206)).setCell ⟨gb236, 1, none⟩ (.int .u8 t207)).setCell ⟨gb236, 2, none⟩ (.int .i64 t208)).setCell ⟨gb236, 3, none⟩ (.string t209)).setCell ⟨gb236, 4, none⟩ (.string t210)).setCell ⟨gb236, 5, none⟩ (.int .i64 t211)).setCell ⟨gb236, 6, none⟩ (.int .i64 t212)).setCell ⟨gb236, 7, none⟩ (.int .u8 t213)).setCell ⟨gb205, 6, none⟩ (.int .i64 t208)).setCell ⟨gb205, 8, none⟩ (.int .i64 t228)).setCell ⟨gb205, 5, none⟩ (.int .u8 t233)).heap[gb215]? = some (.cells #[.int .i64 t206, .int .u8 t207, .int .i64 t208, .string t209, .string t210, .int .i64 t211, .int .i64 t212, .int .u8 t213] 36 (0, 0))) := ⟨by (with_reducible repeat (first | refine blk_drewN ?_ _ | refine blk_drew ?_ | refine blk_alloc ?_ _)); refine blk_far ?_ NB215_205.out _; (with_reducible repeat (first | refine blk_drewN ?_ _ | refine blk_drew ?_ | refine blk_alloc ?_ _)); refine blk_far ?_ NB215_205.out _; (with_reducible repeat (first | refine blk_drewN ?_ _ | refine blk_drew ?_ | refine blk_alloc ?_ _)); refine blk_far ?_ NB215_205.out _; (with_reducible repeat (first | refine blk_drewN ?_ _ | refine blk_drew ?_ | refine blk_alloc ?_ _)); refine blk_far ?_ NB215_236.out _; (with_reducible repeat (first | refine blk_drewN ?_ _ | refine blk_drew ?_ | refine blk_alloc ?_ _)); refine blk_far ?_ NB215_236.out _; (with_reducible repeat (first | refine blk_drewN ?_ _ | refine blk_drew ?_ | refine blk_alloc ?_ _)); refine blk_far ?_ NB215_236.out _; (with_reducible repeat (first | refine blk_drewN ?_ _ | refine blk_drew ?_ | refine blk_alloc ?_ _)); refine blk_far ?_ NB215_236.out _; (with_reducible repeat (first | refine blk_drewN ?_ _ | refine blk_drew ?_ | refine blk_alloc ?_ _)); refine blk_far ?_ NB215_236.out _; (with_reducible repeat (first | refine blk_drewN ?_ _ | refine blk_drew ?_ | refine blk_alloc ?_ _)); refine blk_far ?_ NB215_236.out _; (with_reducible repeat (first | refine blk_drewN ?_ _ | refine blk_drew ?_ | refine blk_alloc ?_ _)); refine blk_far ?_ NB215_236.out _; (with_reducible repeat (first | refine blk_drewN ?_ _ | refine blk_drew ?_ | refine blk_alloc ?_ _)); refine blk_far ?_ NB215_236.out _; (with_reducible repeat (first | refine blk_drewN ?_ _ | refine blk_drew ?_ | refine blk_alloc ?_ _)); exact BK215.out⟩
     have n3_ : Aside0 ((((((((((((wc.setCell ⟨gb236, 0, none⟩ (.int .i64 t206)).setCell ⟨gb236, 1, none⟩ (.int .u8 t207)).setCell ⟨gb236, 2, none⟩ (.int .i64 t208)).setCell ⟨gb236, 3, none⟩ (.string t209)).setCell ⟨gb236, 4, none⟩ (.string t210)).setCell ⟨gb236, 5, none⟩ (.int .i64 t211)).setCell ⟨gb236, 6, none⟩ (.int .i64 t212)).setCell ⟨gb236, 7, none⟩ (.int .u8 t213)).setCell ⟨gb205, 6, none⟩ (.int .i64 t208)).setCell ⟨gb205, 8, none⟩ (.int .i64 t228)).setCell ⟨gb205, 5, none⟩ (.int .u8 t233)).heap[gb225]? = some (.cells #[.int .i64 t216, .int .u8 t217, .int .i64 t218, .string t219, .string t220, .int .i64 t221, .int .i64 t222, .int .u8 t223] 36 (0, 0))) := ⟨by (with_reducible repeat (first | refine blk_drewN ?_ _ | refine blk_drew ?_ | refine blk_alloc ?_ _)); refine blk_far ?_ NB225_205.out _; (with_reducible repeat (first | refine blk_drewN ?_ _ | refine blk_drew ?_ | refine blk_alloc ?_ _)); refine blk_far ?_ NB225_205.out _; (with_reducible repeat (first | refine blk_drewN ?_ _ | refine blk_drew ?_ | refine blk_alloc ?_ _)); refine blk_far ?_ NB225_205.out _; (with_reducible repeat (first | refine blk_drewN ?_ _ | refine blk_drew ?_ | refine blk_alloc ?_ _)); refine blk_far ?_ NB225_236.out _; (with_reducible repeat (first | refine blk_drewN ?_ _ | refine blk_drew ?_ | refine blk_alloc ?_ _)); refine blk_far ?_ NB225_236.out _; (with_reducible repeat (first | refine blk_drewN ?_ _ | refine blk_drew ?_ | refine blk_alloc ?_ _)); refine blk_far ?_ NB225_236.out _; (with_reducible repeat (first | refine blk_drewN ?_ _ | refine blk_drew ?_ | refine blk_alloc ?_ _)); refine blk_far ?_ NB225_236.out _; (with_reducible repeat (first | refine blk_drewN ?_ _ | refine blk_drew ?_ | refine blk_alloc ?_ _)); refine blk_far ?_ NB225_236.out _; (with_reducible repeat (first | refine blk_drewN ?_ _ | refine blk_drew ?_ | refine blk_alloc ?_ _)); refine blk_far ?_ NB225_236.out _; (with_reducible repeat (first | refine blk_drewN ?_ _ | refine blk_drew ?_ | refine blk_alloc ?_ _)); refine blk_far ?_ NB225_236.out _; (with_reducible repeat (first | refine blk_drewN ?_ _ | refine blk_drew ?_ | refine blk_alloc ?_ _)); refine blk_far ?_ NB225_236.out _; (with_reducible repeat (first | refine blk_drewN ?_ _ | refine blk_drew ?_ | refine blk_alloc ?_ _)); exact BK225.out⟩
     have n4_ : Aside0 ((((((((((((wc.setCell ⟨gb236, 0, none⟩ (.int .i64 t206)).setCell ⟨gb236, 1, none⟩ (.int .u8 t207)).setCell ⟨gb236, 2, none⟩ (.int .i64 t208)).setCell ⟨gb236, 3, none⟩ (.string t209)).setCell ⟨gb236, 4, none⟩ (.string t210)).setCell ⟨gb236, 5, none⟩ (.int .i64 t211)).setCell ⟨gb236, 6, none⟩ (.int .i64 t212)).setCell ⟨gb236, 7, none⟩ (.int .u8 t213)).setCell ⟨gb205, 6, none⟩ (.int .i64 t208)).setCell ⟨gb205, 8, none⟩ (.int .i64 t228)).setCell ⟨gb205, 5, none⟩ (.int .u8 t233)).heap[gb235]? = some (.cells #[.int .i64 t226, .int .u8 t227, .int .i64 t228, .string t229, .string t230, .int .i64 t231, .int .i64 t232, .int .u8 t233] 36 (0, 0))) := ⟨by (with_reducible repeat (first | refine blk_drewN ?_ _ | refine blk_drew ?_ | refine blk_alloc ?_ _)); refine blk_far ?_ NB235_205.out _; (with_reducible repeat (first | refine blk_drewN ?_ _ | refine blk_drew ?_ | refine blk_alloc ?_ _)); refine blk_far ?_ NB235_205.out _; (with_reducible repeat (first | refine blk_drewN ?_ _ | refine blk_drew ?_ | refine blk_alloc ?_ _)); refine blk_far ?_ NB235_205.out _; (with_reducible repeat (first | refine blk_drewN ?_ _ | refine blk_drew ?_ | refine blk_alloc ?_ _)); refine blk_far ?_ NB235_236.out _; (with_reducible repeat (first | refine blk_drewN ?_ _ | refine blk_drew ?_ | refine blk_alloc ?_ _)); refine blk_far ?_ NB235_236.out _; (with_reducible repeat (first | refine blk_drewN ?_ _ | refine blk_drew ?_ | refine blk_alloc ?_ _)); refine blk_far ?_ NB235_236.out _; (with_reducible repeat (first | refine blk_drewN ?_ _ | refine blk_drew ?_ | refine blk_alloc ?_ _)); refine blk_far ?_ NB235_236.out _; (with_reducible repeat (first | refine blk_drewN ?_ _ | refine blk_drew ?_ | refine blk_alloc ?_ _)); refine blk_far ?_ NB235_236.out _; (with_reducible repeat (first | refine blk_drewN ?_ _ | refine blk_drew ?_ | refine blk_alloc ?_ _)); refine blk_far ?_ NB235_236.out _; (with_reducible repeat (first | refine blk_drewN ?_ _ | refine blk_drew ?_ | refine blk_alloc ?_ _)); refine blk_far ?_ NB235_236.out _; (with_reducible repeat (first | refine blk_drewN ?_ _ | refine blk_drew ?_ | refine blk_alloc ?_ _)); refine blk_far ?_ NB235_236.out _; (with_reducible repeat (first | refine blk_drewN ?_ _ | refine blk_drew ?_ | refine blk_alloc ?_ _)); exact BK235.out⟩
     have n5_ : Aside0 ((((((((((((wc.setCell ⟨gb236, 0, none⟩ (.int .i64 t206)).setCell ⟨gb236, 1, none⟩ (.int .u8 t207)).setCell ⟨gb236, 2, none⟩ (.int .i64 t208)).setCell ⟨gb236, 3, none⟩ (.string t209)).setCell ⟨gb236, 4, none⟩ (.string t210)).setCell ⟨gb236, 5, none⟩ (.int .i64 t211)).setCell ⟨gb236, 6, none⟩ (.int .i64 t212)).setCell ⟨gb236, 7, none⟩ (.int .u8 t213)).setCell ⟨gb205, 6, none⟩ (.int .i64 t208)).setCell ⟨gb205, 8, none⟩ (.int .i64 t228)).setCell ⟨gb205, 5, none⟩ (.int .u8 t233)).heap[gb236]? = some (.cells #[.int .i64 t206, .int .u8 t207, .int .i64 t208, .string t209, .string t210, .int .i64 t211, .int .i64 t212, .int .u8 t213] 36 (0, 0))) := ⟨by (with_reducible repeat (first | refine blk_drewN ?_ _ | refine blk_drew ?_ | refine blk_alloc ?_ _)); refine blk_far ?_ NB236_205.out _; (with_reducible repeat (first | refine blk_drewN ?_ _ | refine blk_drew ?_ | refine blk_alloc ?_ _)); refine blk_far ?_ NB236_205.out _; (with_reducible repeat (first | refine blk_drewN ?_ _ | refine blk_drew ?_ | refine blk_alloc ?_ _)); refine blk_far ?_ NB236_205.out _; (with_reducible repeat (first | refine blk_drewN ?_ _ | refine blk_drew ?_ | refine blk_alloc ?_ _)); refine blk_put (cs := #[.int .i64 t206, .int .u8 t207, .int .i64 t208, .string t209, .string t210, .int .i64 t211, .int .i64 t212, .int .u8 x237007_5]) ?_ 7 _ rfl; (with_reducible repeat (first | refine blk_drewN ?_ _ | refine blk_drew ?_ | refine blk_alloc ?_ _)); refine blk_put (cs := #[.int .i64 t206, .int .u8 t207, .int .i64 t208, .string t209, .string t210, .int .i64 t211, .int .i64 x237006_5, .int .u8 x237007_5]) ?_ 6 _ rfl; (with_reducible repeat (first | refine blk_drewN ?_ _ | refine blk_drew ?_ | refine blk_alloc ?_ _)); refine blk_put (cs := #[.int .i64 t206, .int .u8 t207, .int .i64 t208, .string t209, .string t210, .int .i64 x237005_5, .int .i64 x237006_5, .int .u8 x237007_5]) ?_ 5 _ rfl; (with_reducible repeat (first | refine blk_drewN ?_ _ | refine blk_drew ?_ | refine blk_alloc ?_ _)); refine blk_put (cs := #[.int .i64 t206, .int .u8 t207, .int .i64 t208, .string t209, .string x237004_5, .int .i64 x237005_5, .int .i64 x237006_5, .int .u8 x237007_5]) ?_ 4 _ rfl; (with_reducible repeat (first | refine blk_drewN ?_ _ | refine blk_drew ?_ | refine blk_alloc ?_ _)); refine blk_put (cs := #[.int .i64 t206, .int .u8 t207, .int .i64 t208, .string x237003_5, .string x237004_5, .int .i64 x237005_5, .int .i64 x237006_5, .int .u8 x237007_5]) ?_ 3 _ rfl; (with_reducible repeat (first | refine blk_drewN ?_ _ | refine blk_drew ?_ | refine blk_alloc ?_ _)); refine blk_put (cs := #[.int .i64 t206, .int .u8 t207, .int .i64 x237002_5, .string x237003_5, .string x237004_5, .int .i64 x237005_5, .int .i64 x237006_5, .int .u8 x237007_5]) ?_ 2 _ rfl; (with_reducible repeat (first | refine blk_drewN ?_ _ | refine blk_drew ?_ | refine blk_alloc ?_ _)); refine blk_put (cs := #[.int .i64 t206, .int .u8 x237001_5, .int .i64 x237002_5, .string x237003_5, .string x237004_5, .int .i64 x237005_5, .int .i64 x237006_5, .int .u8 x237007_5]) ?_ 1 _ rfl; (with_reducible repeat (first | refine blk_drewN ?_ _ | refine blk_drew ?_ | refine blk_alloc ?_ _)); refine blk_put (cs := #[.int .i64 x237000_5, .int .u8 x237001_5, .int .i64 x237002_5, .string x237003_5, .string x237004_5, .int .i64 x237005_5, .int .i64 x237006_5, .int .u8 x237007_5]) ?_ 0 _ rfl; (with_reducible repeat (first | refine blk_drewN ?_ _ | refine blk_drew ?_ | refine blk_alloc ?_ _)); exact BK236.out⟩
     have n6_ : Aside0 (Below w.heap.size w (((((((((((wc.setCell ⟨gb236, 0, none⟩ (.int .i64 t206)).setCell ⟨gb236, 1, none⟩ (.int .u8 t207)).setCell ⟨gb236, 2, none⟩ (.int .i64 t208)).setCell ⟨gb236, 3, none⟩ (.string t209)).setCell ⟨gb236, 4, none⟩ (.string t210)).setCell ⟨gb236, 5, none⟩ (.int .i64 t211)).setCell ⟨gb236, 6, none⟩ (.int .i64 t212)).setCell ⟨gb236, 7, none⟩ (.int .u8 t213)).setCell ⟨gb205, 6, none⟩ (.int .i64 t208)).setCell ⟨gb205, 8, none⟩ (.int .i64 t228)).setCell ⟨gb205, 5, none⟩ (.int .u8 t233))) := ⟨by repeat (first | (with_reducible first | exact HB.out | apply below_alloc | apply pw_below_drewN | apply below_drew1 | refine below_set ?_ GE204.out | refine below_set ?_ GE205.out | refine below_set ?_ GE215.out | refine below_set ?_ GE225.out | refine below_set ?_ GE235.out | refine below_set ?_ GE236.out) | exact HB.out)⟩
     (try clear BK204)
     (try clear BK205)
     (try clear BK215)
     (try clear BK225)
     (try clear BK235)
     (try clear BK236)
     (try clear HB)
     generalize (((((((((((wc.setCell ⟨gb236, 0, none⟩ (.int .i64 t206)).setCell ⟨gb236, 1, none⟩ (.int .u8 t207)).setCell ⟨gb236, 2, none⟩ (.int .i64 t208)).setCell ⟨gb236, 3, none⟩ (.string t209)).setCell ⟨gb236, 4, none⟩ (.string t210)).setCell ⟨gb236, 5, none⟩ (.int .i64 t211)).setCell ⟨gb236, 6, none⟩ (.int .i64 t212)).setCell ⟨gb236, 7, none⟩ (.int .u8 t213)).setCell ⟨gb205, 6, none⟩ (.int .i64 t208)).setCell ⟨gb205, 8, none⟩ (.int .i64 t228)).setCell ⟨gb205, 5, none⟩ (.int .u8 t233)) = w72 at n0_ n1_ n2_ n3_ n4_ n5_ n6_ ⊢
     have BK204 := n0_
     have BK205 := n1_
     have BK215 := n2_
     have BK225 := n3_
     have BK235 := n4_
     have BK236 := n5_
     have HB := n6_
     clear n0_ n1_ n2_ n3_ n4_ n5_ n6_
     have n0_ := Aside0.mk (blk_drew BK204.out)
     have n1_ := Aside0.mk (blk_drew BK205.out)
     have n2_ := Aside0.mk (blk_drew BK215.out)
     have n3_ := Aside0.mk (blk_drew BK225.out)
     have n4_ := Aside0.mk (blk_drew BK235.out)
     have n5_ := Aside0.mk (blk_drew BK236.out)
     have n6_ := Aside0.mk (below_drew1 HB.out)
     clear BK204
     clear BK205
     clear BK215
     clear BK225
     clear BK235
     clear BK236
     clear HB
     have BK204 := n0_
     have BK205 := n1_
     have BK215 := n2_
     have BK225 := n3_
     have BK235 := n4_
     have BK236 := n5_
     have HB := n6_
     clear n0_ n1_ n2_ n3_ n4_ n5_ n6_
     refine start_ (n := 16) (S := fun w' => w'.cell? ⟨gb236, 0, none⟩ = some (.int .i64 t206) ∧ w'.cell? ⟨gb236, 1, none⟩ = some (.int .u8 t207) ∧ w'.cell? ⟨gb236, 2, none⟩ = some (.int .i64 t208) ∧ w'.cell? ⟨gb236, 3, none⟩ = some (.string t209) ∧ w'.cell? ⟨gb236, 4, none⟩ = some (.string t210) ∧ w'.cell? ⟨gb236, 5, none⟩ = some (.int .i64 t211) ∧ w'.cell? ⟨gb236, 6, none⟩ = some (.int .i64 t212) ∧ w'.cell? ⟨gb236, 7, none⟩ = some (.int .u8 t213)) (ds := []) kPr1316 (by kernel_rfl) rfl rfl ⟨(blk_cell BK236.out 0).trans rfl, (blk_cell BK236.out 1).trans rfl, (blk_cell BK236.out 2).trans rfl, (blk_cell BK236.out 3).trans rfl, (blk_cell BK236.out 4).trans rfl, (blk_cell BK236.out 5).trans rfl, (blk_cell BK236.out 6).trans rfl, (blk_cell BK236.out 7).trans rfl⟩ (fun hHeld => ?_); refine with_tabW musterref27_run.tab16 musterref27_run.bits16 (fun HT_ HW_ => ?_)
     generalize w72.drew = w73 at BK204 BK205 BK215 BK225 BK235 BK236 HB hHeld ⊢
     refine pure_ (i := 0) (N := some 52) (v := ?_) (a' := ?_) kPr1315 rfl rfl (any_of HT_.out (by kernel_rfl)) (fun _ _ _ h => h) (Or.inl ⟨by rfl, ?_⟩) ?_ ?_
     rotate_left
     ·intro w'
      go_simp
      with_reducible rfl
     rotate_left
     ·simp only [Act.put, List.setIfInBounds_toArray, List.set_cons_zero, List.set_cons_succ, i64_w, i32_w]
      rfl
     refine pure_ (i := 2) (N := some 54) (v := ?_) (a' := ?_) kPr1314 rfl rfl (any_of HT_.out (by kernel_rfl)) (fun _ _ _ h => h) (Or.inl ⟨by rfl, ?_⟩) ?_ ?_
     rotate_left
     ·intro w'
      go_simp
      with_reducible rfl
     rotate_left
     ·simp only [Act.put, List.setIfInBounds_toArray, List.set_cons_zero, List.set_cons_succ, i64_w, i32_w]
      rfl
     refine pure_ (i := 4) (N := some 56) (v := ?_) (a' := ?_) kPr1313 rfl rfl (any_of HT_.out (by kernel_rfl)) (fun _ _ _ h => h) (Or.inl ⟨by rfl, ?_⟩) ?_ ?_
     rotate_left
     ·intro w'
      go_simp
      with_reducible rfl
     rotate_left
     ·simp only [Act.put, List.setIfInBounds_toArray, List.set_cons_zero, List.set_cons_succ, i64_w, i32_w]
      rfl
     refine pure_ (i := 6) (N := some 58) (v := ?_) (a' := ?_) kPr1312 rfl rfl (any_of HT_.out (by kernel_rfl)) (fun _ _ _ h => h) (Or.inl ⟨by rfl, ?_⟩) ?_ ?_
     rotate_left
     ·intro w'
      go_simp
      with_reducible rfl
     rotate_left
     ·simp only [Act.put, List.setIfInBounds_toArray, List.set_cons_zero, List.set_cons_succ, i64_w, i32_w]
      rfl
     refine take_ (i := 1) (N := some 53) (v := ?_) (a' := ?_) kPr1311 rfl rfl (take_ofW HT_.out HW_.out (by kernel_rfl)) (fun _ _ _ h => h) (Or.inl ⟨by rfl, ?_⟩) hHeld ?_ ?_
     rotate_left
     ·rintro w' ⟨s0, s1, s2, s3, s4, s5, s6, s7⟩
      go_simp
      with_reducible rfl
     rotate_left
     ·simp only [Act.put, List.setIfInBounds_toArray, List.set_cons_zero, List.set_cons_succ, i64_w, i32_w]
      rfl
     refine pure_ (i := 8) (N := some 60) (v := ?_) (a' := ?_) kPr1310 rfl rfl (any_of HT_.out (by kernel_rfl)) (fun _ _ _ h => h) (Or.inl ⟨by rfl, ?_⟩) ?_ ?_
     rotate_left
     ·intro w'
      go_simp
      with_reducible rfl
     rotate_left
     ·simp only [Act.put, List.setIfInBounds_toArray, List.set_cons_zero, List.set_cons_succ, i64_w, i32_w]
      rfl
     refine take_ (i := 3) (N := some 55) (v := ?_) (a' := ?_) kPr139 rfl rfl (take_ofW HT_.out HW_.out (by kernel_rfl)) (fun _ _ _ h => h) (Or.inl ⟨by rfl, ?_⟩) hHeld ?_ ?_
     rotate_left
     ·rintro w' ⟨s0, s1, s2, s3, s4, s5, s6, s7⟩
      go_simp
      with_reducible rfl
     rotate_left
     ·simp only [Act.put, List.setIfInBounds_toArray, List.set_cons_zero, List.set_cons_succ, i64_w, i32_w]
      rfl
     refine take_ (i := 5) (N := some 57) (v := ?_) (a' := ?_) kPr138 rfl rfl (take_ofW HT_.out HW_.out (by kernel_rfl)) (fun _ _ _ h => h) (Or.inl ⟨by rfl, ?_⟩) hHeld ?_ ?_
     rotate_left
     ·rintro w' ⟨s0, s1, s2, s3, s4, s5, s6, s7⟩
      go_simp
      with_reducible rfl
     rotate_left
     ·simp only [Act.put, List.setIfInBounds_toArray, List.set_cons_zero, List.set_cons_succ, i64_w, i32_w]
      rfl
     refine take_ (i := 7) (N := some 59) (v := ?_) (a' := ?_) kPr137 rfl rfl (take_ofW HT_.out HW_.out (by kernel_rfl)) (fun _ _ _ h => h) (Or.inl ⟨by rfl, ?_⟩) hHeld ?_ ?_
     rotate_left
     ·rintro w' ⟨s0, s1, s2, s3, s4, s5, s6, s7⟩
      go_simp
      with_reducible rfl
     rotate_left
     ·simp only [Act.put, List.setIfInBounds_toArray, List.set_cons_zero, List.set_cons_succ, i64_w, i32_w]
      rfl
     refine one_ (i := 9) (N := none) kPr136 rfl rfl (one_of HT_.out (by kernel_rfl)) (by decide) (fun K hK => ?_)
     have hs74 : w73.cell? ⟨gb205, 1, none⟩ = some (.string (⟨#[]⟩ : ByteArray)) := (blk_cell BK205.out 1).trans rfl
     have hfs74 := blk_frozen BK205.out 1
     have hns74_0 := NB204_205.out
     have hns74_2 := NB215_205.out
     have hns74_3 := NB225_205.out
     have hns74_4 := NB235_205.out
     have hns74_5 := NB236_205.out
     have hms74_0 := NB205_204.out
     have hms74_2 := NB205_215.out
     have hms74_3 := NB205_225.out
     have hms74_4 := NB205_235.out
     have hms74_5 := NB205_236.out
     refine skip_ (w1 := ?_) (by rfl) rfl ?_ ?_
     rotate_left
     ·go_simp
      rfl
     refine hK.out _ _ ⟨((cell_far (p := ⟨gb205, _, none⟩) NB236_205.out _).trans (hHeld.1)), ((cell_far (p := ⟨gb205, _, none⟩) NB236_205.out _).trans (hHeld.2.1)), ((cell_far (p := ⟨gb205, _, none⟩) NB236_205.out _).trans (hHeld.2.2.1)), ((cell_far (p := ⟨gb205, _, none⟩) NB236_205.out _).trans (hHeld.2.2.2.1)), ((cell_far (p := ⟨gb205, _, none⟩) NB236_205.out _).trans (hHeld.2.2.2.2.1)), ((cell_far (p := ⟨gb205, _, none⟩) NB236_205.out _).trans (hHeld.2.2.2.2.2.1)), ((cell_far (p := ⟨gb205, _, none⟩) NB236_205.out _).trans (hHeld.2.2.2.2.2.2.1)), ((cell_far (p := ⟨gb205, _, none⟩) NB236_205.out _).trans (hHeld.2.2.2.2.2.2.2))⟩ (fun hHeld => ?_)
     clear hK K
     refine pure_ (i := 10) (N := some 61) (v := ?_) (a' := ?_) kPr135 rfl rfl (any_of HT_.out (by kernel_rfl)) (fun _ _ _ h => h) (Or.inl ⟨by rfl, ?_⟩) ?_ ?_
     rotate_left
     ·intro w'
      go_simp
      with_reducible rfl
     rotate_left
     ·simp only [Act.put, List.setIfInBounds_toArray, List.set_cons_zero, List.set_cons_succ, i64_w, i32_w]
      rfl
     refine one_ (i := 11) (N := none) kPr134 rfl rfl (one_of HT_.out (by kernel_rfl)) (by decide) (fun K hK => ?_)
     have hs75 : w73.cell? ⟨gb205, 2, none⟩ = some (.string (⟨#[]⟩ : ByteArray)) := (blk_cell BK205.out 2).trans rfl
     have hfs75 := blk_frozen BK205.out 2
     have hns75_0 := NB204_205.out
     have hns75_2 := NB215_205.out
     have hns75_3 := NB225_205.out
     have hns75_4 := NB235_205.out
     have hns75_5 := NB236_205.out
     have hms75_0 := NB205_204.out
     have hms75_2 := NB205_215.out
     have hms75_3 := NB205_225.out
     have hms75_4 := NB205_235.out
     have hms75_5 := NB205_236.out
     refine skip_ (w1 := ?_) (by rfl) rfl ?_ ?_
     rotate_left
     ·go_simp
      rfl
     refine hK.out _ _ ⟨((cell_far (p := ⟨gb205, _, none⟩) NB236_205.out _).trans (hHeld.1)), ((cell_far (p := ⟨gb205, _, none⟩) NB236_205.out _).trans (hHeld.2.1)), ((cell_far (p := ⟨gb205, _, none⟩) NB236_205.out _).trans (hHeld.2.2.1)), ((cell_far (p := ⟨gb205, _, none⟩) NB236_205.out _).trans (hHeld.2.2.2.1)), ((cell_far (p := ⟨gb205, _, none⟩) NB236_205.out _).trans (hHeld.2.2.2.2.1)), ((cell_far (p := ⟨gb205, _, none⟩) NB236_205.out _).trans (hHeld.2.2.2.2.2.1)), ((cell_far (p := ⟨gb205, _, none⟩) NB236_205.out _).trans (hHeld.2.2.2.2.2.2.1)), ((cell_far (p := ⟨gb205, _, none⟩) NB236_205.out _).trans (hHeld.2.2.2.2.2.2.2))⟩ (fun hHeld => ?_)
     clear hK K
     refine pure_ (i := 12) (N := some 62) (v := ?_) (a' := ?_) kPr133 rfl rfl (any_of HT_.out (by kernel_rfl)) (fun _ _ _ h => h) (Or.inl ⟨by rfl, ?_⟩) ?_ ?_
     rotate_left
     ·intro w'
      go_simp
      with_reducible rfl
     rotate_left
     ·simp only [Act.put, List.setIfInBounds_toArray, List.set_cons_zero, List.set_cons_succ, i64_w, i32_w]
      rfl
     refine one_ (i := 13) (N := none) kPr132 rfl rfl (one_of HT_.out (by kernel_rfl)) (by decide) (fun K hK => ?_)
     have hs76 : w73.cell? ⟨gb205, 3, none⟩ = some (.int .i64 0) := (blk_cell BK205.out 3).trans rfl
     have hfs76 := blk_frozen BK205.out 3
     have hns76_0 := NB204_205.out
     have hns76_2 := NB215_205.out
     have hns76_3 := NB225_205.out
     have hns76_4 := NB235_205.out
     have hns76_5 := NB236_205.out
     have hms76_0 := NB205_204.out
     have hms76_2 := NB205_215.out
     have hms76_3 := NB205_225.out
     have hms76_4 := NB205_235.out
     have hms76_5 := NB205_236.out
     refine skip_ (w1 := ?_) (by rfl) rfl ?_ ?_
     rotate_left
     ·go_simp
      rfl
     refine hK.out _ _ ⟨((cell_far (p := ⟨gb205, _, none⟩) NB236_205.out _).trans (hHeld.1)), ((cell_far (p := ⟨gb205, _, none⟩) NB236_205.out _).trans (hHeld.2.1)), ((cell_far (p := ⟨gb205, _, none⟩) NB236_205.out _).trans (hHeld.2.2.1)), ((cell_far (p := ⟨gb205, _, none⟩) NB236_205.out _).trans (hHeld.2.2.2.1)), ((cell_far (p := ⟨gb205, _, none⟩) NB236_205.out _).trans (hHeld.2.2.2.2.1)), ((cell_far (p := ⟨gb205, _, none⟩) NB236_205.out _).trans (hHeld.2.2.2.2.2.1)), ((cell_far (p := ⟨gb205, _, none⟩) NB236_205.out _).trans (hHeld.2.2.2.2.2.2.1)), ((cell_far (p := ⟨gb205, _, none⟩) NB236_205.out _).trans (hHeld.2.2.2.2.2.2.2))⟩ (fun hHeld => ?_)
     clear hK K
     refine pure_ (i := 14) (N := some 63) (v := ?_) (a' := ?_) kPr131 rfl rfl (any_of HT_.out (by kernel_rfl)) (fun _ _ _ h => h) (Or.inl ⟨by rfl, ?_⟩) ?_ ?_
     rotate_left
     ·intro w'
      go_simp
      with_reducible rfl
     rotate_left
     ·simp only [Act.put, List.setIfInBounds_toArray, List.set_cons_zero, List.set_cons_succ, i64_w, i32_w]
      rfl
     refine one_ (i := 15) (N := none) kPr130 rfl rfl (one_of HT_.out (by kernel_rfl)) (by decide) (fun K hK => ?_)
     have hs77 : w73.cell? ⟨gb205, 4, none⟩ = some (.int .i64 0) := (blk_cell BK205.out 4).trans rfl
     have hfs77 := blk_frozen BK205.out 4
     have hns77_0 := NB204_205.out
     have hns77_2 := NB215_205.out
     have hns77_3 := NB225_205.out
     have hns77_4 := NB235_205.out
     have hns77_5 := NB236_205.out
     have hms77_0 := NB205_204.out
     have hms77_2 := NB205_215.out
     have hms77_3 := NB205_225.out
     have hms77_4 := NB205_235.out
     have hms77_5 := NB205_236.out
     refine skip_ (w1 := ?_) (by rfl) rfl ?_ ?_
     rotate_left
     ·go_simp
      rfl
     refine hK.out _ _ ⟨((cell_far (p := ⟨gb205, _, none⟩) NB236_205.out _).trans (hHeld.1)), ((cell_far (p := ⟨gb205, _, none⟩) NB236_205.out _).trans (hHeld.2.1)), ((cell_far (p := ⟨gb205, _, none⟩) NB236_205.out _).trans (hHeld.2.2.1)), ((cell_far (p := ⟨gb205, _, none⟩) NB236_205.out _).trans (hHeld.2.2.2.1)), ((cell_far (p := ⟨gb205, _, none⟩) NB236_205.out _).trans (hHeld.2.2.2.2.1)), ((cell_far (p := ⟨gb205, _, none⟩) NB236_205.out _).trans (hHeld.2.2.2.2.2.1)), ((cell_far (p := ⟨gb205, _, none⟩) NB236_205.out _).trans (hHeld.2.2.2.2.2.2.1)), ((cell_far (p := ⟨gb205, _, none⟩) NB236_205.out _).trans (hHeld.2.2.2.2.2.2.2))⟩ (fun hHeld => ?_)
     clear hK K
     refine done_ (done_of HT_.out (by kernel_rfl)) ?_
     have hcz78_0 : w73.cell? ⟨gb205, 0, none⟩ = some (.int .i64 a1) := (blk_cell BK205.out 0).trans rfl
     have hcz78_1 : w73.cell? ⟨gb205, 1, none⟩ = some (.string (⟨#[]⟩ : ByteArray)) := (blk_cell BK205.out 1).trans rfl
     have hcz78_2 : w73.cell? ⟨gb205, 2, none⟩ = some (.string (⟨#[]⟩ : ByteArray)) := (blk_cell BK205.out 2).trans rfl
     have hcz78_3 : w73.cell? ⟨gb205, 3, none⟩ = some (.int .i64 0) := (blk_cell BK205.out 3).trans rfl
     have hcz78_4 : w73.cell? ⟨gb205, 4, none⟩ = some (.int .i64 0) := (blk_cell BK205.out 4).trans rfl
     have hcz78_5 : w73.cell? ⟨gb205, 5, none⟩ = some (.int .u8 t233) := (blk_cell BK205.out 5).trans rfl
     have hcz78_6 : w73.cell? ⟨gb205, 6, none⟩ = some (.int .i64 t208) := (blk_cell BK205.out 6).trans rfl
     have hcz78_7 : w73.cell? ⟨gb205, 7, none⟩ = some (.int .i64 x206007_5) := (blk_cell BK205.out 7).trans rfl
     have hcz78_8 : w73.cell? ⟨gb205, 8, none⟩ = some (.int .i64 t228) := (blk_cell BK205.out 8).trans rfl
     have hfz78_0 := blk_frozen BK205.out 0
     have hfz78_1 := blk_frozen BK205.out 1
     have hfz78_2 := blk_frozen BK205.out 2
     have hfz78_3 := blk_frozen BK205.out 3
     have hfz78_4 := blk_frozen BK205.out 4
     have hfz78_5 := blk_frozen BK205.out 5
     have hfz78_6 := blk_frozen BK205.out 6
     have hfz78_7 := blk_frozen BK205.out 7
     have hfz78_8 := blk_frozen BK205.out 8
     have hnb79 := NB204_225.out
     have hnc79 := NB225_204.out
     have hcz80_0 : w73.cell? ⟨gb204, 0, none⟩ = some (.int .i64 0) := (blk_cell BK204.out 0).trans rfl
     have hcz80_1 : w73.cell? ⟨gb204, 1, none⟩ = some (.string (⟨#[]⟩ : ByteArray)) := (blk_cell BK204.out 1).trans rfl
     have hcz80_2 : w73.cell? ⟨gb204, 2, none⟩ = some (.string (⟨#[]⟩ : ByteArray)) := (blk_cell BK204.out 2).trans rfl
     have hcz80_3 : w73.cell? ⟨gb204, 3, none⟩ = some (.int .i64 0) := (blk_cell BK204.out 3).trans rfl
     have hcz80_4 : w73.cell? ⟨gb204, 4, none⟩ = some (.int .i64 0) := (blk_cell BK204.out 4).trans rfl
     have hcz80_5 : w73.cell? ⟨gb204, 5, none⟩ = some (.int .u8 0) := (blk_cell BK204.out 5).trans rfl
     have hcz80_6 : w73.cell? ⟨gb204, 6, none⟩ = some (.int .i64 0) := (blk_cell BK204.out 6).trans rfl
     have hcz80_7 : w73.cell? ⟨gb204, 7, none⟩ = some (.int .i64 0) := (blk_cell BK204.out 7).trans rfl
     have hcz80_8 : w73.cell? ⟨gb204, 8, none⟩ = some (.int .i64 0) := (blk_cell BK204.out 8).trans rfl
     have hfz80_0 := blk_frozen BK204.out 0
     have hfz80_1 := blk_frozen BK204.out 1
     have hfz80_2 := blk_frozen BK204.out 2
     have hfz80_3 := blk_frozen BK204.out 3
     have hfz80_4 := blk_frozen BK204.out 4
     have hfz80_5 := blk_frozen BK204.out 5
     have hfz80_6 := blk_frozen BK204.out 6
     have hfz80_7 := blk_frozen BK204.out 7
     have hfz80_8 := blk_frozen BK204.out 8
     try go_wp2
     refine bodyPost_ret (results_cell_row rfl _ _ gb204 56 #[.int .i64 a1, .string t209, .string t210, .int .i64 t211, .int .i64 t212, .int .u8 t233, .int .i64 t208, .int .i64 x206007_5, .int .i64 t228] (0, 0) _ rfl (by (with_reducible repeat (first | refine blk_drewN ?_ _ | refine blk_drew ?_ | refine blk_alloc ?_ _)); refine blk_put (cs := #[.int .i64 a1, .string t209, .string t210, .int .i64 t211, .int .i64 t212, .int .u8 t233, .int .i64 t208, .int .i64 x206007_5, .int .i64 0]) ?_ 8 _ rfl; (with_reducible repeat (first | refine blk_drewN ?_ _ | refine blk_drew ?_ | refine blk_alloc ?_ _)); refine blk_put (cs := #[.int .i64 a1, .string t209, .string t210, .int .i64 t211, .int .i64 t212, .int .u8 t233, .int .i64 t208, .int .i64 0, .int .i64 0]) ?_ 7 _ rfl; (with_reducible repeat (first | refine blk_drewN ?_ _ | refine blk_drew ?_ | refine blk_alloc ?_ _)); refine blk_put (cs := #[.int .i64 a1, .string t209, .string t210, .int .i64 t211, .int .i64 t212, .int .u8 t233, .int .i64 0, .int .i64 0, .int .i64 0]) ?_ 6 _ rfl; (with_reducible repeat (first | refine blk_drewN ?_ _ | refine blk_drew ?_ | refine blk_alloc ?_ _)); refine blk_put (cs := #[.int .i64 a1, .string t209, .string t210, .int .i64 t211, .int .i64 t212, .int .u8 0, .int .i64 0, .int .i64 0, .int .i64 0]) ?_ 5 _ rfl; (with_reducible repeat (first | refine blk_drewN ?_ _ | refine blk_drew ?_ | refine blk_alloc ?_ _)); refine blk_put (cs := #[.int .i64 a1, .string t209, .string t210, .int .i64 t211, .int .i64 0, .int .u8 0, .int .i64 0, .int .i64 0, .int .i64 0]) ?_ 4 _ rfl; (with_reducible repeat (first | refine blk_drewN ?_ _ | refine blk_drew ?_ | refine blk_alloc ?_ _)); refine blk_put (cs := #[.int .i64 a1, .string t209, .string t210, .int .i64 0, .int .i64 0, .int .u8 0, .int .i64 0, .int .i64 0, .int .i64 0]) ?_ 3 _ rfl; (with_reducible repeat (first | refine blk_drewN ?_ _ | refine blk_drew ?_ | refine blk_alloc ?_ _)); refine blk_put (cs := #[.int .i64 a1, .string t209, .string (⟨#[]⟩ : ByteArray), .int .i64 0, .int .i64 0, .int .u8 0, .int .i64 0, .int .i64 0, .int .i64 0]) ?_ 2 _ rfl; (with_reducible repeat (first | refine blk_drewN ?_ _ | refine blk_drew ?_ | refine blk_alloc ?_ _)); refine blk_put (cs := #[.int .i64 a1, .string (⟨#[]⟩ : ByteArray), .string (⟨#[]⟩ : ByteArray), .int .i64 0, .int .i64 0, .int .u8 0, .int .i64 0, .int .i64 0, .int .i64 0]) ?_ 1 _ rfl; (with_reducible repeat (first | refine blk_drewN ?_ _ | refine blk_drew ?_ | refine blk_alloc ?_ _)); refine blk_put (cs := #[.int .i64 0, .string (⟨#[]⟩ : ByteArray), .string (⟨#[]⟩ : ByteArray), .int .i64 0, .int .i64 0, .int .u8 0, .int .i64 0, .int .i64 0, .int .i64 0]) ?_ 0 _ rfl; (with_reducible repeat (first | refine blk_drewN ?_ _ | refine blk_drew ?_ | refine blk_alloc ?_ _)); refine blk_far ?_ NB204_205.out _; (with_reducible repeat (first | refine blk_drewN ?_ _ | refine blk_drew ?_ | refine blk_alloc ?_ _)); refine blk_far ?_ NB204_205.out _; (with_reducible repeat (first | refine blk_drewN ?_ _ | refine blk_drew ?_ | refine blk_alloc ?_ _)); refine blk_far ?_ NB204_205.out _; (with_reducible repeat (first | refine blk_drewN ?_ _ | refine blk_drew ?_ | refine blk_alloc ?_ _)); refine blk_far ?_ NB204_205.out _; (with_reducible repeat (first | refine blk_drewN ?_ _ | refine blk_drew ?_ | refine blk_alloc ?_ _)); exact BK204.out) Try.underlying56 rfl (by kernel_rfl)) rfl ?_
     exact ⟨by first | rfl | (simp [errW_none, errW_some] <;> rfl) | (simp [*, errW_none, errW_some] <;> rfl), by repeat (first | (with_reducible first | exact HB.out | apply below_alloc | apply pw_below_drewN | apply below_drew1 | refine below_set ?_ GE204.out | refine below_set ?_ GE205.out | refine below_set ?_ GE215.out | refine below_set ?_ GE225.out | refine below_set ?_ GE235.out | refine below_set ?_ GE236.out) | exact HB.out)⟩
    ·replace c53 := Bool.eq_false_iff.mpr c53
     subst c53
     have H1 : (some (a1, t209, t210, t211, t212, x206005_5, t208, x206007_5, (-1))) = some (r1, r2, r3, r4, r5, r6, r7, r8, r9) := by rw [if_neg (show ¬ (false = true) by decide)] at H; exact H
     clear H
     have H := H1
     clear H1
     simp only [Option.some.injEq, Prod.mk.injEq] at H
     obtain ⟨rfl, rfl, rfl, rfl, rfl, rfl, rfl, rfl, rfl⟩ := H
     have hnb81 := NB215_204.out
     have hnc81 := NB204_215.out
     have hnb82 := NB215_205.out
     have hnc82 := NB205_215.out
     have hnb83 := NB215_225.out
     have hnc83 := NB225_215.out
     have hnb84 := NB215_235.out
     have hnc84 := NB235_215.out
     have hnb85 := NB215_236.out
     have hnc85 := NB236_215.out
     have hcz86_0 : wc.cell? ⟨gb215, 0, none⟩ = some (.int .i64 t206) := (blk_cell BK215.out 0).trans rfl
     have hcz86_1 : wc.cell? ⟨gb215, 1, none⟩ = some (.int .u8 t207) := (blk_cell BK215.out 1).trans rfl
     have hcz86_2 : wc.cell? ⟨gb215, 2, none⟩ = some (.int .i64 t208) := (blk_cell BK215.out 2).trans rfl
     have hcz86_3 : wc.cell? ⟨gb215, 3, none⟩ = some (.string t209) := (blk_cell BK215.out 3).trans rfl
     have hcz86_4 : wc.cell? ⟨gb215, 4, none⟩ = some (.string t210) := (blk_cell BK215.out 4).trans rfl
     have hcz86_5 : wc.cell? ⟨gb215, 5, none⟩ = some (.int .i64 t211) := (blk_cell BK215.out 5).trans rfl
     have hcz86_6 : wc.cell? ⟨gb215, 6, none⟩ = some (.int .i64 t212) := (blk_cell BK215.out 6).trans rfl
     have hcz86_7 : wc.cell? ⟨gb215, 7, none⟩ = some (.int .u8 t213) := (blk_cell BK215.out 7).trans rfl
     have hfz86_0 := blk_frozen BK215.out 0
     have hfz86_1 := blk_frozen BK215.out 1
     have hfz86_2 := blk_frozen BK215.out 2
     have hfz86_3 := blk_frozen BK215.out 3
     have hfz86_4 := blk_frozen BK215.out 4
     have hfz86_5 := blk_frozen BK215.out 5
     have hfz86_6 := blk_frozen BK215.out 6
     have hfz86_7 := blk_frozen BK215.out 7
     have hnb87 := NB236_204.out
     have hnc87 := NB204_236.out
     have hnb88 := NB236_205.out
     have hnc88 := NB205_236.out
     have hnb89 := NB236_225.out
     have hnc89 := NB225_236.out
     have hnb90 := NB236_235.out
     have hnc90 := NB235_236.out
     have hcz91_0 : wc.cell? ⟨gb236, 0, none⟩ = some (.int .i64 x237000_5) := (blk_cell BK236.out 0).trans rfl
     have hcz91_1 : wc.cell? ⟨gb236, 1, none⟩ = some (.int .u8 x237001_5) := (blk_cell BK236.out 1).trans rfl
     have hcz91_2 : wc.cell? ⟨gb236, 2, none⟩ = some (.int .i64 x237002_5) := (blk_cell BK236.out 2).trans rfl
     have hcz91_3 : wc.cell? ⟨gb236, 3, none⟩ = some (.string x237003_5) := (blk_cell BK236.out 3).trans rfl
     have hcz91_4 : wc.cell? ⟨gb236, 4, none⟩ = some (.string x237004_5) := (blk_cell BK236.out 4).trans rfl
     have hcz91_5 : wc.cell? ⟨gb236, 5, none⟩ = some (.int .i64 x237005_5) := (blk_cell BK236.out 5).trans rfl
     have hcz91_6 : wc.cell? ⟨gb236, 6, none⟩ = some (.int .i64 x237006_5) := (blk_cell BK236.out 6).trans rfl
     have hcz91_7 : wc.cell? ⟨gb236, 7, none⟩ = some (.int .u8 x237007_5) := (blk_cell BK236.out 7).trans rfl
     have hfz91_0 := blk_frozen BK236.out 0
     have hfz91_1 := blk_frozen BK236.out 1
     have hfz91_2 := blk_frozen BK236.out 2
     have hfz91_3 := blk_frozen BK236.out 3
     have hfz91_4 := blk_frozen BK236.out 4
     have hfz91_5 := blk_frozen BK236.out 5
     have hfz91_6 := blk_frozen BK236.out 6
     have hfz91_7 := blk_frozen BK236.out 7
     have hnb92 := NB205_204.out
     have hnc92 := NB204_205.out
     have hnb93 := NB205_225.out
     have hnc93 := NB225_205.out
     have hnb94 := NB205_235.out
     have hnc94 := NB235_205.out
     have hcz95_0 : wc.cell? ⟨gb205, 0, none⟩ = some (.int .i64 a1) := (blk_cell BK205.out 0).trans rfl
     have hcz95_1 : wc.cell? ⟨gb205, 1, none⟩ = some (.string (⟨#[]⟩ : ByteArray)) := (blk_cell BK205.out 1).trans rfl
     have hcz95_2 : wc.cell? ⟨gb205, 2, none⟩ = some (.string (⟨#[]⟩ : ByteArray)) := (blk_cell BK205.out 2).trans rfl
     have hcz95_3 : wc.cell? ⟨gb205, 3, none⟩ = some (.int .i64 0) := (blk_cell BK205.out 3).trans rfl
     have hcz95_4 : wc.cell? ⟨gb205, 4, none⟩ = some (.int .i64 0) := (blk_cell BK205.out 4).trans rfl
     have hcz95_5 : wc.cell? ⟨gb205, 5, none⟩ = some (.int .u8 x206005_5) := (blk_cell BK205.out 5).trans rfl
     have hcz95_6 : wc.cell? ⟨gb205, 6, none⟩ = some (.int .i64 (-1)) := (blk_cell BK205.out 6).trans rfl
     have hcz95_7 : wc.cell? ⟨gb205, 7, none⟩ = some (.int .i64 x206007_5) := (blk_cell BK205.out 7).trans rfl
     have hcz95_8 : wc.cell? ⟨gb205, 8, none⟩ = some (.int .i64 (-1)) := (blk_cell BK205.out 8).trans rfl
     have hfz95_0 := blk_frozen BK205.out 0
     have hfz95_1 := blk_frozen BK205.out 1
     have hfz95_2 := blk_frozen BK205.out 2
     have hfz95_3 := blk_frozen BK205.out 3
     have hfz95_4 := blk_frozen BK205.out 4
     have hfz95_5 := blk_frozen BK205.out 5
     have hfz95_6 := blk_frozen BK205.out 6
     have hfz95_7 := blk_frozen BK205.out 7
     have hfz95_8 := blk_frozen BK205.out 8
     try go_wp2
     have n0_ : Aside0 ((((((((((wc.setCell ⟨gb236, 0, none⟩ (.int .i64 t206)).setCell ⟨gb236, 1, none⟩ (.int .u8 t207)).setCell ⟨gb236, 2, none⟩ (.int .i64 t208)).setCell ⟨gb236, 3, none⟩ (.string t209)).setCell ⟨gb236, 4, none⟩ (.string t210)).setCell ⟨gb236, 5, none⟩ (.int .i64 t211)).setCell ⟨gb236, 6, none⟩ (.int .i64 t212)).setCell ⟨gb236, 7, none⟩ (.int .u8 t213)).setCell ⟨gb205, 6, none⟩ (.int .i64 t208)).heap[gb204]? = some (.cells #[.int .i64 0, .string (⟨#[]⟩ : ByteArray), .string (⟨#[]⟩ : ByteArray), .int .i64 0, .int .i64 0, .int .u8 0, .int .i64 0, .int .i64 0, .int .i64 0] 56 (0, 0))) := ⟨by (with_reducible repeat (first | refine blk_drewN ?_ _ | refine blk_drew ?_ | refine blk_alloc ?_ _)); refine blk_far ?_ NB204_205.out _; (with_reducible repeat (first | refine blk_drewN ?_ _ | refine blk_drew ?_ | refine blk_alloc ?_ _)); refine blk_far ?_ NB204_236.out _; (with_reducible repeat (first | refine blk_drewN ?_ _ | refine blk_drew ?_ | refine blk_alloc ?_ _)); refine blk_far ?_ NB204_236.out _; (with_reducible repeat (first | refine blk_drewN ?_ _ | refine blk_drew ?_ | refine blk_alloc ?_ _)); refine blk_far ?_ NB204_236.out _; (with_reducible repeat (first | refine blk_drewN ?_ _ | refine blk_drew ?_ | refine blk_alloc ?_ _)); refine blk_far ?_ NB204_236.out _; (with_reducible repeat (first | refine blk_drewN ?_ _ | refine blk_drew ?_ | refine blk_alloc ?_ _)); refine blk_far ?_ NB204_236.out _; (with_reducible repeat (first | refine blk_drewN ?_ _ | refine blk_drew ?_ | refine blk_alloc ?_ _)); refine blk_far ?_ NB204_236.out _; (with_reducible repeat (first | refine blk_drewN ?_ _ | refine blk_drew ?_ | refine blk_alloc ?_ _)); refine blk_far ?_ NB204_236.out _; (with_reducible repeat (first | refine blk_drewN ?_ _ | refine blk_drew ?_ | refine blk_alloc ?_ _)); refine blk_far ?_ NB204_236.out _; (with_reducible repeat (first | refine blk_drewN ?_ _ | refine blk_drew ?_ | refine blk_alloc ?_ _)); exact BK204.out⟩
     have n1_ : Aside0 ((((((((((wc.setCell ⟨gb236, 0, none⟩ (.int .i64 t206)).setCell ⟨gb236, 1, none⟩ (.int .u8 t207)).setCell ⟨gb236, 2, none⟩ (.int .i64 t208)).setCell ⟨gb236, 3, none⟩ (.string t209)).setCell ⟨gb236, 4, none⟩ (.string t210)).setCell ⟨gb236, 5, none⟩ (.int .i64 t211)).setCell ⟨gb236, 6, none⟩ (.int .i64 t212)).setCell ⟨gb236, 7, none⟩ (.int .u8 t213)).setCell ⟨gb205, 6, none⟩ (.int .i64 t208)).heap[gb205]? = some (.cells #[.int .i64 a1, .string (⟨#[]⟩ : ByteArray), .string (⟨#[]⟩ : ByteArray), .int .i64 0, .int .i64 0, .int .u8 x206005_5, .int .i64 t208, .int .i64 x206007_5, .int .i64 (-1)] 56 (0, 0))) := ⟨by (with_reducible repeat (first | refine blk_drewN ?_ _ | refine blk_drew ?_ | refine blk_alloc ?_ _)); refine blk_put (cs := #[.int .i64 a1, .string (⟨#[]⟩ : ByteArray), .string (⟨#[]⟩ : ByteArray), .int .i64 0, .int .i64 0, .int .u8 x206005_5, .int .i64 (-1), .int .i64 x206007_5, .int .i64 (-1)]) ?_ 6 _ rfl; (with_reducible repeat (first | refine blk_drewN ?_ _ | refine blk_drew ?_ | refine blk_alloc ?_ _)); refine blk_far ?_ NB205_236.out _; (with_reducible repeat (first | refine blk_drewN ?_ _ | refine blk_drew ?_ | refine blk_alloc ?_ _)); refine blk_far ?_ NB205_236.out _; (with_reducible repeat (first | refine blk_drewN ?_ _ | refine blk_drew ?_ | refine blk_alloc ?_ _)); refine blk_far ?_ NB205_236.out _; (with_reducible repeat (first | refine blk_drewN ?_ _ | refine blk_drew ?_ | refine blk_alloc ?_ _)); refine blk_far ?_ NB205_236.out _; (with_reducible repeat (first | refine blk_drewN ?_ _ | refine blk_drew ?_ | refine blk_alloc ?_ _)); refine blk_far ?_ NB205_236.out _; (with_reducible repeat (first | refine blk_drewN ?_ _ | refine blk_drew ?_ | refine blk_alloc ?_ _)); refine blk_far ?_ NB205_236.out _; (with_reducible repeat (first | refine blk_drewN ?_ _ | refine blk_drew ?_ | refine blk_alloc ?_ _)); refine blk_far ?_ NB205_236.out _; (with_reducible repeat (first | refine blk_drewN ?_ _ | refine blk_drew ?_ | refine blk_alloc ?_ _)); refine blk_far ?_ NB205_236.out _; (with_reducible repeat (first | refine blk_drewN ?_ _ | refine blk_drew ?_ | refine blk_alloc ?_ _)); exact BK205.out⟩
     have n2_ : Aside0 ((((((((((wc.setCell ⟨gb236, 0, none⟩ (.int .i64 t206)).setCell ⟨gb236, 1, none⟩ (.int .u8 t207)).setCell ⟨gb236, 2, none⟩ (.int .i64 t208)).setCell ⟨gb236, 3, none⟩ (.string t209)).setCell ⟨gb236, 4, none⟩ (.string t210)).setCell ⟨gb236, 5, none⟩ (.int .i64 t211)).setCell ⟨gb236, 6, none⟩ (.int .i64 t212)).setCell ⟨gb236, 7, none⟩ (.int .u8 t213)).setCell ⟨gb205, 6, none⟩ (.int .i64 t208)).heap[gb215]? = some (.cells #[.int .i64 t206, .int .u8 t207, .int .i64 t208, .string t209, .string t210, .int .i64 t211, .int .i64 t212, .int .u8 t213] 36 (0, 0))) := ⟨by (with_reducible repeat (first | refine blk_drewN ?_ _ | refine blk_drew ?_ | refine blk_alloc ?_ _)); refine blk_far ?_ NB215_205.out _; (with_reducible repeat (first | refine blk_drewN ?_ _ | refine blk_drew ?_ | refine blk_alloc ?_ _)); refine blk_far ?_ NB215_236.out _; (with_reducible repeat (first | refine blk_drewN ?_ _ | refine blk_drew ?_ | refine blk_alloc ?_ _)); refine blk_far ?_ NB215_236.out _; (with_reducible repeat (first | refine blk_drewN ?_ _ | refine blk_drew ?_ | refine blk_alloc ?_ _)); refine blk_far ?_ NB215_236.out _; (with_reducible repeat (first | refine blk_drewN ?_ _ | refine blk_drew ?_ | refine blk_alloc ?_ _)); refine blk_far ?_ NB215_236.out _; (with_reducible repeat (first | refine blk_drewN ?_ _ | refine blk_drew ?_ | refine blk_alloc ?_ _)); refine blk_far ?_ NB215_236.out _; (with_reducible repeat (first | refine blk_drewN ?_ _ | refine blk_drew ?_ | refine blk_alloc ?_ _)); refine blk_far ?_ NB215_236.out _; (with_reducible repeat (first | refine blk_drewN ?_ _ | refine blk_drew ?_ | refine blk_alloc ?_ _)); refine blk_far ?_ NB215_236.out _; (with_reducible repeat (first | refine blk_drewN ?_ _ | refine blk_drew ?_ | refine blk_alloc ?_ _)); refine blk_far ?_ NB215_236.out _; (with_reducible repeat (first | refine blk_drewN ?_ _ | refine blk_drew ?_ | refine blk_alloc ?_ _)); exact BK215.out⟩
     have n3_ : Aside0 ((((((((((wc.setCell ⟨gb236, 0, none⟩ (.int .i64 t206)).setCell ⟨gb236, 1, none⟩ (.int .u8 t207)).setCell ⟨gb236, 2, none⟩ (.int .i64 t208)).setCell ⟨gb236, 3, none⟩ (.string t209)).setCell ⟨gb236, 4, none⟩ (.string t210)).setCell ⟨gb236, 5, none⟩ (.int .i64 t211)).setCell ⟨gb236, 6, none⟩ (.int .i64 t212)).setCell ⟨gb236, 7, none⟩ (.int .u8 t213)).setCell ⟨gb205, 6, none⟩ (.int .i64 t208)).heap[gb225]? = some (.cells #[.int .i64 t216, .int .u8 t217, .int .i64 t218, .string t219, .string t220, .int .i64 t221, .int .i64 t222, .int .u8 t223] 36 (0, 0))) := ⟨by (with_reducible repeat (first | refine blk_drewN ?_ _ | refine blk_drew ?_ | refine blk_alloc ?_ _)); refine blk_far ?_ NB225_205.out _; (with_reducible repeat (first | refine blk_drewN ?_ _ | refine blk_drew ?_ | refine blk_alloc ?_ _)); refine blk_far ?_ NB225_236.out _; (with_reducible repeat (first | refine blk_drewN ?_ _ | refine blk_drew ?_ | refine blk_alloc ?_ _)); refine blk_far ?_ NB225_236.out _; (with_reducible repeat (first | refine blk_drewN ?_ _ | refine blk_drew ?_ | refine blk_alloc ?_ _)); refine blk_far ?_ NB225_236.out _; (with_reducible repeat (first | refine blk_drewN ?_ _ | refine blk_drew ?_ | refine blk_alloc ?_ _)); refine blk_far ?_ NB225_236.out _; (with_reducible repeat (first | refine blk_drewN ?_ _ | refine blk_drew ?_ | refine blk_alloc ?_ _)); refine blk_far ?_ NB225_236.out _; (with_reducible repeat (first | refine blk_drewN ?_ _ | refine blk_drew ?_ | refine blk_alloc ?_ _)); refine blk_far ?_ NB225_236.out _; (with_reducible repeat (first | refine blk_drewN ?_ _ | refine blk_drew ?_ | refine blk_alloc ?_ _)); refine blk_far ?_ NB225_236.out _; (with_reducible repeat (first | refine blk_drewN ?_ _ | refine blk_drew ?_ | refine blk_alloc ?_ _)); refine blk_far ?_ NB225_236.out _; (with_reducible repeat (first | refine blk_drewN ?_ _ | refine blk_drew ?_ | refine blk_alloc ?_ _)); exact BK225.out⟩
     have n4_ : Aside0 ((((((((((wc.setCell ⟨gb236, 0, none⟩ (.int .i64 t206)).setCell ⟨gb236, 1, none⟩ (.int .u8 t207)).setCell ⟨gb236, 2, none⟩ (.int .i64 t208)).setCell ⟨gb236, 3, none⟩ (.string t209)).setCell ⟨gb236, 4, none⟩ (.string t210)).setCell ⟨gb236, 5, none⟩ (.int .i64 t211)).setCell ⟨gb236, 6, none⟩ (.int .i64 t212)).setCell ⟨gb236, 7, none⟩ (.int .u8 t213)).setCell ⟨gb205, 6, none⟩ (.int .i64 t208)).heap[gb235]? = some (.cells #[.int .i64 t226, .int .u8 t227, .int .i64 t228, .string t229, .string t230, .int .i64 t231, .int .i64 t232, .int .u8 t233] 36 (0, 0))) := ⟨by (with_reducible repeat (first | refine blk_drewN ?_ _ | refine blk_drew ?_ | refine blk_alloc ?_ _)); refine blk_far ?_ NB235_205.out _; (with_reducible repeat (first | refine blk_drewN ?_ _ | refine blk_drew ?_ | refine blk_alloc ?_ _)); refine blk_far ?_ NB235_236.out _; (with_reducible repeat (first | refine blk_drewN ?_ _ | refine blk_drew ?_ | refine blk_alloc ?_ _)); refine blk_far ?_ NB235_236.out _; (with_reducible repeat (first | refine blk_drewN ?_ _ | refine blk_drew ?_ | refine blk_alloc ?_ _)); refine blk_far ?_ NB235_236.out _; (with_reducible repeat (first | refine blk_drewN ?_ _ | refine blk_drew ?_ | refine blk_alloc ?_ _)); refine blk_far ?_ NB235_236.out _; (with_reducible repeat (first | refine blk_drewN ?_ _ | refine blk_drew ?_ | refine blk_alloc ?_ _)); refine blk_far ?_ NB235_236.out _; (with_reducible repeat (first | refine blk_drewN ?_ _ | refine blk_drew ?_ | refine blk_alloc ?_ _)); refine blk_far ?_ NB235_236.out _; (with_reducible repeat (first | refine blk_drewN ?_ _ | refine blk_drew ?_ | refine blk_alloc ?_ _)); refine blk_far ?_ NB235_236.out _; (with_reducible repeat (first | refine blk_drewN ?_ _ | refine blk_drew ?_ | refine blk_alloc ?_ _)); refine blk_far ?_ NB235_236.out _; (with_reducible repeat (first | refine blk_drewN ?_ _ | refine blk_drew ?_ | refine blk_alloc ?_ _)); exact BK235.out⟩
     have n5_ : Aside0 ((((((((((wc.setCell ⟨gb236, 0, none⟩ (.int .i64 t206)).setCell ⟨gb236, 1, none⟩ (.int .u8 t207)).setCell ⟨gb236, 2, none⟩ (.int .i64 t208)).setCell ⟨gb236, 3, none⟩ (.string t209)).setCell ⟨gb236, 4, none⟩ (.string t210)).setCell ⟨gb236, 5, none⟩ (.int .i64 t211)).setCell ⟨gb236, 6, none⟩ (.int .i64 t212)).setCell ⟨gb236, 7, none⟩ (.int .u8 t213)).setCell ⟨gb205, 6, none⟩ (.int .i64 t208)).heap[gb236]? = some (.cells #[.int .i64 t206, .int .u8 t207, .int .i64 t208, .string t209, .string t210, .int .i64 t211, .int .i64 t212, .int .u8 t213] 36 (0, 0))) := ⟨by (with_reducible repeat (first | refine blk_drewN ?_ _ | refine blk_drew ?_ | refine blk_alloc ?_ _)); refine blk_far ?_ NB236_205.out _; (with_reducible repeat (first | refine blk_drewN ?_ _ | refine blk_drew ?_ | refine blk_alloc ?_ _)); refine blk_put (cs := #[.int .i64 t206, .int .u8 t207, .int .i64 t208, .string t209, .string t210, .int .i64 t211, .int .i64 t212, .int .u8 x237007_5]) ?_ 7 _ rfl; (with_reducible repeat (first | refine blk_drewN ?_ _ | refine blk_drew ?_ | refine blk_alloc ?_ _)); refine blk_put (cs := #[.int .i64 t206, .int .u8 t207, .int .i64 t208, .string t209, .string t210, .int .i64 t211, .int .i64 x237006_5, .int .u8 x237007_5]) ?_ 6 _ rfl; (with_reducible repeat (first | refine blk_drewN ?_ _ | refine blk_drew ?_ | refine blk_alloc ?_ _)); refine blk_put (cs := #[.int .i64 t206, .int .u8 t207, .int .i64 t208, .string t209, .string t210, .int .i64 x237005_5, .int .i64 x237006_5, .int .u8 x237007_5]) ?_ 5 _ rfl; (with_reducible repeat (first | refine blk_drewN ?_ _ | refine blk_drew ?_ | refine blk_alloc ?_ _)); refine blk_put (cs := #[.int .i64 t206, .int .u8 t207, .int .i64 t208, .string t209, .string x237004_5, .int .i64 x237005_5, .int .i64 x237006_5, .int .u8 x237007_5]) ?_ 4 _ rfl; (with_reducible repeat (first | refine blk_drewN ?_ _ | refine blk_drew ?_ | refine blk_alloc ?_ _)); refine blk_put (cs := #[.int .i64 t206, .int .u8 t207, .int .i64 t208, .string x237003_5, .string x237004_5, .int .i64 x237005_5, .int .i64 x237006_5, .int .u8 x237007_5]) ?_ 3 _ rfl; (with_reducible repeat (first | refine blk_drewN ?_ _ | refine blk_drew ?_ | refine blk_alloc ?_ _)); refine blk_put (cs := #[.int .i64 t206, .int .u8 t207, .int .i64 x237002_5, .string x237003_5, .string x237004_5, .int .i64 x237005_5, .int .i64 x237006_5, .int .u8 x237007_5]) ?_ 2 _ rfl; (with_reducible repeat (first | refine blk_drewN ?_ _ | refine blk_drew ?_ | refine blk_alloc ?_ _)); refine blk_put (cs := #[.int .i64 t206, .int .u8 x237001_5, .int .i64 x237002_5, .string x237003_5, .string x237004_5, .int .i64 x237005_5, .int .i64 x237006_5, .int .u8 x237007_5]) ?_ 1 _ rfl; (with_reducible repeat (first | refine blk_drewN ?_ _ | refine blk_drew ?_ | refine blk_alloc ?_ _)); refine blk_put (cs := #[.int .i64 x237000_5, .int .u8 x237001_5, .int .i64 x237002_5, .string x237003_5, .string x237004_5, .int .i64 x237005_5, .int .i64 x237006_5, .int .u8 x237007_5]) ?_ 0 _ rfl; (with_reducible repeat (first | refine blk_drewN ?_ _ | refine blk_drew ?_ | refine blk_alloc ?_ _)); exact BK236.out⟩
     have n6_ : Aside0 (Below w.heap.size w (((((((((wc.setCell ⟨gb236, 0, none⟩ (.int .i64 t206)).setCell ⟨gb236, 1, none⟩ (.int .u8 t207)).setCell ⟨gb236, 2, none⟩ (.int .i64 t208)).setCell ⟨gb236, 3, none⟩ (.string t209)).setCell ⟨gb236, 4, none⟩ (.string t210)).setCell ⟨gb236, 5, none⟩ (.int .i64 t211)).setCell ⟨gb236, 6, none⟩ (.int .i64 t212)).setCell ⟨gb236, 7, none⟩ (.int .u8 t213)).setCell ⟨gb205, 6, none⟩ (.int .i64 t208))) := ⟨by repeat (first | (with_reducible first | exact HB.out | apply below_alloc | apply pw_below_drewN | apply below_drew1 | refine below_set ?_ GE204.out | refine below_set ?_ GE205.out | refine below_set ?_ GE215.out | refine below_set ?_ GE225.out | refine below_set ?_ GE235.out | refine below_set ?_ GE236.out) | exact HB.out)⟩
     (try clear BK204)
     (try clear BK205)
     (try clear BK215)
     (try clear BK225)
     (try clear BK235)
     (try clear BK236)
     (try clear HB)
     generalize (((((((((wc.setCell ⟨gb236, 0, none⟩ (.int .i64 t206)).setCell ⟨gb236, 1, none⟩ (.int .u8 t207)).setCell ⟨gb236, 2, none⟩ (.int .i64 t208)).setCell ⟨gb236, 3, none⟩ (.string t209)).setCell ⟨gb236, 4, none⟩ (.string t210)).setCell ⟨gb236, 5, none⟩ (.int .i64 t211)).setCell ⟨gb236, 6, none⟩ (.int .i64 t212)).setCell ⟨gb236, 7, none⟩ (.int .u8 t213)).setCell ⟨gb205, 6, none⟩ (.int .i64 t208)) = w96 at n0_ n1_ n2_ n3_ n4_ n5_ n6_ ⊢
     have BK204 := n0_
     have BK205 := n1_
     have BK215 := n2_
     have BK225 := n3_
     have BK235 := n4_
     have BK236 := n5_
     have HB := n6_
     clear n0_ n1_ n2_ n3_ n4_ n5_ n6_
     have n0_ := Aside0.mk (blk_drew BK204.out)
     have n1_ := Aside0.mk (blk_drew BK205.out)
     have n2_ := Aside0.mk (blk_drew BK215.out)
     have n3_ := Aside0.mk (blk_drew BK225.out)
     have n4_ := Aside0.mk (blk_drew BK235.out)
     have n5_ := Aside0.mk (blk_drew BK236.out)
     have n6_ := Aside0.mk (below_drew1 HB.out)
     clear BK204
     clear BK205
     clear BK215
     clear BK225
     clear BK235
     clear BK236
     clear HB
     have BK204 := n0_
     have BK205 := n1_
     have BK215 := n2_
     have BK225 := n3_
     have BK235 := n4_
     have BK236 := n5_
     have HB := n6_
     clear n0_ n1_ n2_ n3_ n4_ n5_ n6_
     refine start_ (n := 16) (S := fun w' => w'.cell? ⟨gb236, 0, none⟩ = some (.int .i64 t206) ∧ w'.cell? ⟨gb236, 1, none⟩ = some (.int .u8 t207) ∧ w'.cell? ⟨gb236, 2, none⟩ = some (.int .i64 t208) ∧ w'.cell? ⟨gb236, 3, none⟩ = some (.string t209) ∧ w'.cell? ⟨gb236, 4, none⟩ = some (.string t210) ∧ w'.cell? ⟨gb236, 5, none⟩ = some (.int .i64 t211) ∧ w'.cell? ⟨gb236, 6, none⟩ = some (.int .i64 t212) ∧ w'.cell? ⟨gb236, 7, none⟩ = some (.int .u8 t213)) (ds := []) kPr1316 (by kernel_rfl) rfl rfl ⟨(blk_cell BK236.out 0).trans rfl, (blk_cell BK236.out 1).trans rfl, (blk_cell BK236.out 2).trans rfl, (blk_cell BK236.out 3).trans rfl, (blk_cell BK236.out 4).trans rfl, (blk_cell BK236.out 5).trans rfl, (blk_cell BK236.out 6).trans rfl, (blk_cell BK236.out 7).trans rfl⟩ (fun hHeld => ?_); refine with_tabW musterref27_run.tab16 musterref27_run.bits16 (fun HT_ HW_ => ?_)
     generalize w96.drew = w97 at BK204 BK205 BK215 BK225 BK235 BK236 HB hHeld ⊢
     refine pure_ (i := 0) (N := some 52) (v := ?_) (a' := ?_) kPr1315 rfl rfl (any_of HT_.out (by kernel_rfl)) (fun _ _ _ h => h) (Or.inl ⟨by rfl, ?_⟩) ?_ ?_
     rotate_left
     ·intro w'
      go_simp
      with_reducible rfl
     rotate_left
     ·simp only [Act.put, List.setIfInBounds_toArray, List.set_cons_zero, List.set_cons_succ, i64_w, i32_w]
      rfl
     refine pure_ (i := 2) (N := some 54) (v := ?_) (a' := ?_) kPr1314 rfl rfl (any_of HT_.out (by kernel_rfl)) (fun _ _ _ h => h) (Or.inl ⟨by rfl, ?_⟩) ?_ ?_
     rotate_left
     ·intro w'
      go_simp
      with_reducible rfl
     rotate_left
     ·simp only [Act.put, List.setIfInBounds_toArray, List.set_cons_zero, List.set_cons_succ, i64_w, i32_w]
      rfl
     refine pure_ (i := 4) (N := some 56) (v := ?_) (a' := ?_) kPr1313 rfl rfl (any_of HT_.out (by kernel_rfl)) (fun _ _ _ h => h) (Or.inl ⟨by rfl, ?_⟩) ?_ ?_
     rotate_left
     ·intro w'
      go_simp
      with_reducible rfl
     rotate_left
     ·simp only [Act.put, List.setIfInBounds_toArray, List.set_cons_zero, List.set_cons_succ, i64_w, i32_w]
      rfl
     refine pure_ (i := 6) (N := some 58) (v := ?_) (a' := ?_) kPr1312 rfl rfl (any_of HT_.out (by kernel_rfl)) (fun _ _ _ h => h) (Or.inl ⟨by rfl, ?_⟩) ?_ ?_
     rotate_left
     ·intro w'
      go_simp
      with_reducible rfl
     rotate_left
     ·simp only [Act.put, List.setIfInBounds_toArray, List.set_cons_zero, List.set_cons_succ, i64_w, i32_w]
      rfl
     refine take_ (i := 1) (N := some 53) (v := ?_) (a' := ?_) kPr1311 rfl rfl (take_ofW HT_.out HW_.out (by kernel_rfl)) (fun _ _ _ h => h) (Or.inl ⟨by rfl, ?_⟩) hHeld ?_ ?_
     rotate_left
     ·rintro w' ⟨s0, s1, s2, s3, s4, s5, s6, s7⟩
      go_simp
      with_reducible rfl
     rotate_left
     ·simp only [Act.put, List.setIfInBounds_toArray, List.set_cons_zero, List.set_cons_succ, i64_w, i32_w]
      rfl
     refine pure_ (i := 8) (N := some 60) (v := ?_) (a' := ?_) kPr1310 rfl rfl (any_of HT_.out (by kernel_rfl)) (fun _ _ _ h => h) (Or.inl ⟨by rfl, ?_⟩) ?_ ?_
     rotate_left
     ·intro w'
      go_simp
      with_reducible rfl
     rotate_left
     ·simp only [Act.put, List.setIfInBounds_toArray, List.set_cons_zero, List.set_cons_succ, i64_w, i32_w]
      rfl
     refine take_ (i := 3) (N := some 55) (v := ?_) (a' := ?_) kPr139 rfl rfl (take_ofW HT_.out HW_.out (by kernel_rfl)) (fun _ _ _ h => h) (Or.inl ⟨by rfl, ?_⟩) hHeld ?_ ?_
     rotate_left
     ·rintro w' ⟨s0, s1, s2, s3, s4, s5, s6, s7⟩
      go_simp
      with_reducible rfl
     rotate_left
     ·simp only [Act.put, List.setIfInBounds_toArray, List.set_cons_zero, List.set_cons_succ, i64_w, i32_w]
      rfl
     refine take_ (i := 5) (N := some 57) (v := ?_) (a' := ?_) kPr138 rfl rfl (take_ofW HT_.out HW_.out (by kernel_rfl)) (fun _ _ _ h => h) (Or.inl ⟨by rfl, ?_⟩) hHeld ?_ ?_
     rotate_left
     ·rintro w' ⟨s0, s1, s2, s3, s4, s5, s6, s7⟩
      go_simp
      with_reducible rfl
     rotate_left
     ·simp only [Act.put, List.setIfInBounds_toArray, List.set_cons_zero, List.set_cons_succ, i64_w, i32_w]
      rfl
     refine take_ (i := 7) (N := some 59) (v := ?_) (a' := ?_) kPr137 rfl rfl (take_ofW HT_.out HW_.out (by kernel_rfl)) (fun _ _ _ h => h) (Or.inl ⟨by rfl, ?_⟩) hHeld ?_ ?_
     rotate_left
     ·rintro w' ⟨s0, s1, s2, s3, s4, s5, s6, s7⟩
      go_simp
      with_reducible rfl
     rotate_left
     ·simp only [Act.put, List.setIfInBounds_toArray, List.set_cons_zero, List.set_cons_succ, i64_w, i32_w]
      rfl
     refine one_ (i := 9) (N := none) kPr136 rfl rfl (one_of HT_.out (by kernel_rfl)) (by decide) (fun K hK => ?_)
     have hs98 : w97.cell? ⟨gb205, 1, none⟩ = some (.string (⟨#[]⟩ : ByteArray)) := (blk_cell BK205.out 1).trans rfl
     have hfs98 := blk_frozen BK205.out 1
     have hns98_0 := NB204_205.out
     have hns98_2 := NB215_205.out
     have hns98_3 := NB225_205.out
     have hns98_4 := NB235_205.out
     have hns98_5 := NB236_205.out
     have hms98_0 := NB205_204.out
     have hms98_2 := NB205_215.out
     have hms98_3 := NB205_225.out
     have hms98_4 := NB205_235.out
     have hms98_5 := NB205_236.out
     refine skip_ (w1 := ?_) (by rfl) rfl ?_ ?_
     rotate_left
     ·go_simp
      rfl
     refine hK.out _ _ ⟨((cell_far (p := ⟨gb205, _, none⟩) NB236_205.out _).trans (hHeld.1)), ((cell_far (p := ⟨gb205, _, none⟩) NB236_205.out _).trans (hHeld.2.1)), ((cell_far (p := ⟨gb205, _, none⟩) NB236_205.out _).trans (hHeld.2.2.1)), ((cell_far (p := ⟨gb205, _, none⟩) NB236_205.out _).trans (hHeld.2.2.2.1)), ((cell_far (p := ⟨gb205, _, none⟩) NB236_205.out _).trans (hHeld.2.2.2.2.1)), ((cell_far (p := ⟨gb205, _, none⟩) NB236_205.out _).trans (hHeld.2.2.2.2.2.1)), ((cell_far (p := ⟨gb205, _, none⟩) NB236_205.out _).trans (hHeld.2.2.2.2.2.2.1)), ((cell_far (p := ⟨gb205, _, none⟩) NB236_205.out _).trans (hHeld.2.2.2.2.2.2.2))⟩ (fun hHeld => ?_)
     clear hK K
     refine pure_ (i := 10) (N := some 61) (v := ?_) (a' := ?_) kPr135 rfl rfl (any_of HT_.out (by kernel_rfl)) (fun _ _ _ h => h) (Or.inl ⟨by rfl, ?_⟩) ?_ ?_
     rotate_left
     ·intro w'
      go_simp
      with_reducible rfl
     rotate_left
     ·simp only [Act.put, List.setIfInBounds_toArray, List.set_cons_zero, List.set_cons_succ, i64_w, i32_w]
      rfl
     refine one_ (i := 11) (N := none) kPr134 rfl rfl (one_of HT_.out (by kernel_rfl)) (by decide) (fun K hK => ?_)
     have hs99 : w97.cell? ⟨gb205, 2, none⟩ = some (.string (⟨#[]⟩ : ByteArray)) := (blk_cell BK205.out 2).trans rfl
     have hfs99 := blk_frozen BK205.out 2
     have hns99_0 := NB204_205.out
     have hns99_2 := NB215_205.out
     have hns99_3 := NB225_205.out
     have hns99_4 := NB235_205.out
     have hns99_5 := NB236_205.out
     have hms99_0 := NB205_204.out
     have hms99_2 := NB205_215.out
     have hms99_3 := NB205_225.out
     have hms99_4 := NB205_235.out
     have hms99_5 := NB205_236.out
     refine skip_ (w1 := ?_) (by rfl) rfl ?_ ?_
     rotate_left
     ·go_simp
      rfl
     refine hK.out _ _ ⟨((cell_far (p := ⟨gb205, _, none⟩) NB236_205.out _).trans (hHeld.1)), ((cell_far (p := ⟨gb205, _, none⟩) NB236_205.out _).trans (hHeld.2.1)), ((cell_far (p := ⟨gb205, _, none⟩) NB236_205.out _).trans (hHeld.2.2.1)), ((cell_far (p := ⟨gb205, _, none⟩) NB236_205.out _).trans (hHeld.2.2.2.1)), ((cell_far (p := ⟨gb205, _, none⟩) NB236_205.out _).trans (hHeld.2.2.2.2.1)), ((cell_far (p := ⟨gb205, _, none⟩) NB236_205.out _).trans (hHeld.2.2.2.2.2.1)), ((cell_far (p := ⟨gb205, _, none⟩) NB236_205.out _).trans (hHeld.2.2.2.2.2.2.1)), ((cell_far (p := ⟨gb205, _, none⟩) NB236_205.out _).trans (hHeld.2.2.2.2.2.2.2))⟩ (fun hHeld => ?_)
     clear hK K
     refine pure_ (i := 12) (N := some 62) (v := ?_) (a' := ?_) kPr133 rfl rfl (any_of HT_.out (by kernel_rfl)) (fun _ _ _ h => h) (Or.inl ⟨by rfl, ?_⟩) ?_ ?_
     rotate_left
     ·intro w'
      go_simp
      with_reducible rfl
     rotate_left
     ·simp only [Act.put, List.setIfInBounds_toArray, List.set_cons_zero, List.set_cons_succ, i64_w, i32_w]
      rfl
     refine one_ (i := 13) (N := none) kPr132 rfl rfl (one_of HT_.out (by kernel_rfl)) (by decide) (fun K hK => ?_)
     have hs100 : w97.cell? ⟨gb205, 3, none⟩ = some (.int .i64 0) := (blk_cell BK205.out 3).trans rfl
     have hfs100 := blk_frozen BK205.out 3
     have hns100_0 := NB204_205.out
     have hns100_2 := NB215_205.out
     have hns100_3 := NB225_205.out
     have hns100_4 := NB235_205.out
     have hns100_5 := NB236_205.out
     have hms100_0 := NB205_204.out
     have hms100_2 := NB205_215.out
     have hms100_3 := NB205_225.out
     have hms100_4 := NB205_235.out
     have hms100_5 := NB205_236.out
     refine skip_ (w1 := ?_) (by rfl) rfl ?_ ?_
     rotate_left
     ·go_simp
      rfl
     refine hK.out _ _ ⟨((cell_far (p := ⟨gb205, _, none⟩) NB236_205.out _).trans (hHeld.1)), ((cell_far (p := ⟨gb205, _, none⟩) NB236_205.out _).trans (hHeld.2.1)), ((cell_far (p := ⟨gb205, _, none⟩) NB236_205.out _).trans (hHeld.2.2.1)), ((cell_far (p := ⟨gb205, _, none⟩) NB236_205.out _).trans (hHeld.2.2.2.1)), ((cell_far (p := ⟨gb205, _, none⟩) NB236_205.out _).trans (hHeld.2.2.2.2.1)), ((cell_far (p := ⟨gb205, _, none⟩) NB236_205.out _).trans (hHeld.2.2.2.2.2.1)), ((cell_far (p := ⟨gb205, _, none⟩) NB236_205.out _).trans (hHeld.2.2.2.2.2.2.1)), ((cell_far (p := ⟨gb205, _, none⟩) NB236_205.out _).trans (hHeld.2.2.2.2.2.2.2))⟩ (fun hHeld => ?_)
     clear hK K
     refine pure_ (i := 14) (N := some 63) (v := ?_) (a' := ?_) kPr131 rfl rfl (any_of HT_.out (by kernel_rfl)) (fun _ _ _ h => h) (Or.inl ⟨by rfl, ?_⟩) ?_ ?_
     rotate_left
     ·intro w'
      go_simp
      with_reducible rfl
     rotate_left
     ·simp only [Act.put, List.setIfInBounds_toArray, List.set_cons_zero, List.set_cons_succ, i64_w, i32_w]
      rfl
     refine one_ (i := 15) (N := none) kPr130 rfl rfl (one_of HT_.out (by kernel_rfl)) (by decide) (fun K hK => ?_)
     have hs101 : w97.cell? ⟨gb205, 4, none⟩ = some (.int .i64 0) := (blk_cell BK205.out 4).trans rfl
     have hfs101 := blk_frozen BK205.out 4
     have hns101_0 := NB204_205.out
     have hns101_2 := NB215_205.out
     have hns101_3 := NB225_205.out
     have hns101_4 := NB235_205.out
     have hns101_5 := NB236_205.out
     have hms101_0 := NB205_204.out
     have hms101_2 := NB205_215.out
     have hms101_3 := NB205_225.out
     have hms101_4 := NB205_235.out
     have hms101_5 := NB205_236.out
     refine skip_ (w1 := ?_) (by rfl) rfl ?_ ?_
     rotate_left
     ·go_simp
      rfl
     refine hK.out _ _ ⟨((cell_far (p := ⟨gb205, _, none⟩) NB236_205.out _).trans (hHeld.1)), ((cell_far (p := ⟨gb205, _, none⟩) NB236_205.out _).trans (hHeld.2.1)), ((cell_far (p := ⟨gb205, _, none⟩) NB236_205.out _).trans (hHeld.2.2.1)), ((cell_far (p := ⟨gb205, _, none⟩) NB236_205.out _).trans (hHeld.2.2.2.1)), ((cell_far (p := ⟨gb205, _, none⟩) NB236_205.out _).trans (hHeld.2.2.2.2.1)), ((cell_far (p := ⟨gb205, _, none⟩) NB236_205.out _).trans (hHeld.2.2.2.2.2.1)), ((cell_far (p := ⟨gb205, _, none⟩) NB236_205.out _).trans (hHeld.2.2.2.2.2.2.1)), ((cell_far (p := ⟨gb205, _, none⟩) NB236_205.out _).trans (hHeld.2.2.2.2.2.2.2))⟩ (fun hHeld => ?_)
     clear hK K
     refine done_ (done_of HT_.out (by kernel_rfl)) ?_
     have hcz102_0 : w97.cell? ⟨gb205, 0, none⟩ = some (.int .i64 a1) := (blk_cell BK205.out 0).trans rfl
     have hcz102_1 : w97.cell? ⟨gb205, 1, none⟩ = some (.string (⟨#[]⟩ : ByteArray)) := (blk_cell BK205.out 1).trans rfl
     have hcz102_2 : w97.cell? ⟨gb205, 2, none⟩ = some (.string (⟨#[]⟩ : ByteArray)) := (blk_cell BK205.out 2).trans rfl
     have hcz102_3 : w97.cell? ⟨gb205, 3, none⟩ = some (.int .i64 0) := (blk_cell BK205.out 3).trans rfl
     have hcz102_4 : w97.cell? ⟨gb205, 4, none⟩ = some (.int .i64 0) := (blk_cell BK205.out 4).trans rfl
     have hcz102_5 : w97.cell? ⟨gb205, 5, none⟩ = some (.int .u8 x206005_5) := (blk_cell BK205.out 5).trans rfl
     have hcz102_6 : w97.cell? ⟨gb205, 6, none⟩ = some (.int .i64 t208) := (blk_cell BK205.out 6).trans rfl
     have hcz102_7 : w97.cell? ⟨gb205, 7, none⟩ = some (.int .i64 x206007_5) := (blk_cell BK205.out 7).trans rfl
     have hcz102_8 : w97.cell? ⟨gb205, 8, none⟩ = some (.int .i64 (-1)) := (blk_cell BK205.out 8).trans rfl
     have hfz102_0 := blk_frozen BK205.out 0
     have hfz102_1 := blk_frozen BK205.out 1
     have hfz102_2 := blk_frozen BK205.out 2
     have hfz102_3 := blk_frozen BK205.out 3
     have hfz102_4 := blk_frozen BK205.out 4
     have hfz102_5 := blk_frozen BK205.out 5
     have hfz102_6 := blk_frozen BK205.out 6
     have hfz102_7 := blk_frozen BK205.out 7
     have hfz102_8 := blk_frozen BK205.out 8
     have hnb103 := NB204_225.out
     have hnc103 := NB225_204.out
     have hnb104 := NB204_235.out
     have hnc104 := NB235_204.out
     have hcz105_0 : w97.cell? ⟨gb204, 0, none⟩ = some (.int .i64 0) := (blk_cell BK204.out 0).trans rfl
     have hcz105_1 : w97.cell? ⟨gb204, 1, none⟩ = some (.string (⟨#[]⟩ : ByteArray)) := (blk_cell BK204.out 1).trans rfl
     have hcz105_2 : w97.cell? ⟨gb204, 2, none⟩ = some (.string (⟨#[]⟩ : ByteArray)) := (blk_cell BK204.out 2).trans rfl
     have hcz105_3 : w97.cell? ⟨gb204, 3, none⟩ = some (.int .i64 0) := (blk_cell BK204.out 3).trans rfl
     have hcz105_4 : w97.cell? ⟨gb204, 4, none⟩ = some (.int .i64 0) := (blk_cell BK204.out 4).trans rfl
     have hcz105_5 : w97.cell? ⟨gb204, 5, none⟩ = some (.int .u8 0) := (blk_cell BK204.out 5).trans rfl
     have hcz105_6 : w97.cell? ⟨gb204, 6, none⟩ = some (.int .i64 0) := (blk_cell BK204.out 6).trans rfl
     have hcz105_7 : w97.cell? ⟨gb204, 7, none⟩ = some (.int .i64 0) := (blk_cell BK204.out 7).trans rfl
     have hcz105_8 : w97.cell? ⟨gb204, 8, none⟩ = some (.int .i64 0) := (blk_cell BK204.out 8).trans rfl
     have hfz105_0 := blk_frozen BK204.out 0
     have hfz105_1 := blk_frozen BK204.out 1
     have hfz105_2 := blk_frozen BK204.out 2
     have hfz105_3 := blk_frozen BK204.out 3
     have hfz105_4 := blk_frozen BK204.out 4
     have hfz105_5 := blk_frozen BK204.out 5
     have hfz105_6 := blk_frozen BK204.out 6
     have hfz105_7 := blk_frozen BK204.out 7
     have hfz105_8 := blk_frozen BK204.out 8
     try go_wp2
     refine bodyPost_ret (results_cell_row rfl _ _ gb204 56 #[.int .i64 a1, .string t209, .string t210, .int .i64 t211, .int .i64 t212, .int .u8 x206005_5, .int .i64 t208, .int .i64 x206007_5, .int .i64 (-1)] (0, 0) _ rfl (by (with_reducible repeat (first | refine blk_drewN ?_ _ | refine blk_drew ?_ | refine blk_alloc ?_ _)); refine blk_put (cs := #[.int .i64 a1, .string t209, .string t210, .int .i64 t211, .int .i64 t212, .int .u8 x206005_5, .int .i64 t208, .int .i64 x206007_5, .int .i64 0]) ?_ 8 _ rfl; (with_reducible repeat (first | refine blk_drewN ?_ _ | refine blk_drew ?_ | refine blk_alloc ?_ _)); refine blk_put (cs := #[.int .i64 a1, .string t209, .string t210, .int .i64 t211, .int .i64 t212, .int .u8 x206005_5, .int .i64 t208, .int .i64 0, .int .i64 0]) ?_ 7 _ rfl; (with_reducible repeat (first | refine blk_drewN ?_ _ | refine blk_drew ?_ | refine blk_alloc ?_ _)); refine blk_put (cs := #[.int .i64 a1, .string t209, .string t210, .int .i64 t211, .int .i64 t212, .int .u8 x206005_5, .int .i64 0, .int .i64 0, .int .i64 0]) ?_ 6 _ rfl; (with_reducible repeat (first | refine blk_drewN ?_ _ | refine blk_drew ?_ | refine blk_alloc ?_ _)); refine blk_put (cs := #[.int .i64 a1, .string t209, .string t210, .int .i64 t211, .int .i64 t212, .int .u8 0, .int .i64 0, .int .i64 0, .int .i64 0]) ?_ 5 _ rfl; (with_reducible repeat (first | refine blk_drewN ?_ _ | refine blk_drew ?_ | refine blk_alloc ?_ _)); refine blk_put (cs := #[.int .i64 a1, .string t209, .string t210, .int .i64 t211, .int .i64 0, .int .u8 0, .int .i64 0, .int .i64 0, .int .i64 0]) ?_ 4 _ rfl; (with_reducible repeat (first | refine blk_drewN ?_ _ | refine blk_drew ?_ | refine blk_alloc ?_ _)); refine blk_put (cs := #[.int .i64 a1, .string t209, .string t210, .int .i64 0, .int .i64 0, .int .u8 0, .int .i64 0, .int .i64 0, .int .i64 0]) ?_ 3 _ rfl; (with_reducible repeat (first | refine blk_drewN ?_ _ | refine blk_drew ?_ | refine blk_alloc ?_ _)); refine blk_put (cs := #[.int .i64 a1, .string t209, .string (⟨#[]⟩ : ByteArray), .int .i64 0, .int .i64 0, .int .u8 0, .int .i64 0, .int .i64 0, .int .i64 0]) ?_ 2 _ rfl; (with_reducible repeat (first | refine blk_drewN ?_ _ | refine blk_drew ?_ | refine blk_alloc ?_ _)); refine blk_put (cs := #[.int .i64 a1, .string (⟨#[]⟩ : ByteArray), .string (⟨#[]⟩ : ByteArray), .int .i64 0, .int .i64 0, .int .u8 0, .int .i64 0, .int .i64 0, .int .i64 0]) ?_ 1 _ rfl; (with_reducible repeat (first | refine blk_drewN ?_ _ | refine blk_drew ?_ | refine blk_alloc ?_ _)); refine blk_put (cs := #[.int .i64 0, .string (⟨#[]⟩ : ByteArray), .string (⟨#[]⟩ : ByteArray), .int .i64 0, .int .i64 0, .int .u8 0, .int .i64 0, .int .i64 0, .int .i64 0]) ?_ 0 _ rfl; (with_reducible repeat (first | refine blk_drewN ?_ _ | refine blk_drew ?_ | refine blk_alloc ?_ _)); refine blk_far ?_ NB204_205.out _; (with_reducible repeat (first | refine blk_drewN ?_ _ | refine blk_drew ?_ | refine blk_alloc ?_ _)); refine blk_far ?_ NB204_205.out _; (with_reducible repeat (first | refine blk_drewN ?_ _ | refine blk_drew ?_ | refine blk_alloc ?_ _)); refine blk_far ?_ NB204_205.out _; (with_reducible repeat (first | refine blk_drewN ?_ _ | refine blk_drew ?_ | refine blk_alloc ?_ _)); refine blk_far ?_ NB204_205.out _; (with_reducible repeat (first | refine blk_drewN ?_ _ | refine blk_drew ?_ | refine blk_alloc ?_ _)); exact BK204.out) Try.underlying56 rfl (by kernel_rfl)) rfl ?_
     exact ⟨by first | rfl | (simp [errW_none, errW_some] <;> rfl) | (simp [*, errW_none, errW_some] <;> rfl), by repeat (first | (with_reducible first | exact HB.out | apply below_alloc | apply pw_below_drewN | apply below_drew1 | refine below_set ?_ GE204.out | refine below_set ?_ GE205.out | refine below_set ?_ GE215.out | refine below_set ?_ GE225.out | refine below_set ?_ GE235.out | refine below_set ?_ GE236.out) | exact HB.out)⟩
   ·replace c52 := Bool.eq_false_iff.mpr c52
    subst c52
    have H1 : (if t234 = true then (some (a1, x237003_5, x237004_5, x237005_5, x237006_5, t233, (-1), x206007_5, t228)) else (some (a1, x237003_5, x237004_5, x237005_5, x237006_5, x206005_5, (-1), x206007_5, (-1)))) = some (r1, r2, r3, r4, r5, r6, r7, r8, r9) := by rw [if_neg (show ¬ (false = true) by decide)] at H; exact H
    clear H
    have H := H1
    clear H1
    by_cases c106 : t234 = true
    ·subst c106
     have H1 : (some (a1, x237003_5, x237004_5, x237005_5, x237006_5, t233, (-1), x206007_5, t228)) = some (r1, r2, r3, r4, r5, r6, r7, r8, r9) := by rw [if_pos rfl] at H; exact H
     clear H
     have H := H1
     clear H1
     simp only [Option.some.injEq, Prod.mk.injEq] at H
     obtain ⟨rfl, rfl, rfl, rfl, rfl, rfl, rfl, rfl, rfl⟩ := H
     have hnb107 := NB235_204.out
     have hnc107 := NB204_235.out
     have hnb108 := NB235_205.out
     have hnc108 := NB205_235.out
     have hnb109 := NB235_215.out
     have hnc109 := NB215_235.out
     have hnb110 := NB235_225.out
     have hnc110 := NB225_235.out
     have hnb111 := NB235_236.out
     have hnc111 := NB236_235.out
     have hcz112_0 : wc.cell? ⟨gb235, 0, none⟩ = some (.int .i64 t226) := (blk_cell BK235.out 0).trans rfl
     have hcz112_1 : wc.cell? ⟨gb235, 1, none⟩ = some (.int .u8 t227) := (blk_cell BK235.out 1).trans rfl
     have hcz112_2 : wc.cell? ⟨gb235, 2, none⟩ = some (.int .i64 t228) := (blk_cell BK235.out 2).trans rfl
     have hcz112_3 : wc.cell? ⟨gb235, 3, none⟩ = some (.string t229) := (blk_cell BK235.out 3).trans rfl
     have hcz112_4 : wc.cell? ⟨gb235, 4, none⟩ = some (.string t230) := (blk_cell BK235.out 4).trans rfl
     have hcz112_5 : wc.cell? ⟨gb235, 5, none⟩ = some (.int .i64 t231) := (blk_cell BK235.out 5).trans rfl
     have hcz112_6 : wc.cell? ⟨gb235, 6, none⟩ = some (.int .i64 t232) := (blk_cell BK235.out 6).trans rfl
     have hcz112_7 : wc.cell? ⟨gb235, 7, none⟩ = some (.int .u8 t233) := (blk_cell BK235.out 7).trans rfl
     have hfz112_0 := blk_frozen BK235.out 0
     have hfz112_1 := blk_frozen BK235.out 1
     have hfz112_2 := blk_frozen BK235.out 2
     have hfz112_3 := blk_frozen BK235.out 3
     have hfz112_4 := blk_frozen BK235.out 4
     have hfz112_5 := blk_frozen BK235.out 5
     have hfz112_6 := blk_frozen BK235.out 6
     have hfz112_7 := blk_frozen BK235.out 7
     have hnb113 := NB205_204.out
     have hnc113 := NB204_205.out
     have hnb114 := NB205_215.out
     have hnc114 := NB215_205.out
     have hnb115 := NB205_225.out
     have hnc115 := NB225_205.out
     have hnb116 := NB205_236.out
     have hnc116 := NB236_205.out
     have hcz117_0 : wc.cell? ⟨gb205, 0, none⟩ = some (.int .i64 a1) := (blk_cell BK205.out 0).trans rfl
     have hcz117_1 : wc.cell? ⟨gb205, 1, none⟩ = some (.string (⟨#[]⟩ : ByteArray)) := (blk_cell BK205.out 1).trans rfl
     have hcz117_2 : wc.cell? ⟨gb205, 2, none⟩ = some (.string (⟨#[]⟩ : ByteArray)) := (blk_cell BK205.out 2).trans rfl
     have hcz117_3 : wc.cell? ⟨gb205, 3, none⟩ = some (.int .i64 0) := (blk_cell BK205.out 3).trans rfl
     have hcz117_4 : wc.cell? ⟨gb205, 4, none⟩ = some (.int .i64 0) := (blk_cell BK205.out 4).trans rfl
     have hcz117_5 : wc.cell? ⟨gb205, 5, none⟩ = some (.int .u8 x206005_5) := (blk_cell BK205.out 5).trans rfl
     have hcz117_6 : wc.cell? ⟨gb205, 6, none⟩ = some (.int .i64 (-1)) := (blk_cell BK205.out 6).trans rfl
     have hcz117_7 : wc.cell? ⟨gb205, 7, none⟩ = some (.int .i64 x206007_5) := (blk_cell BK205.out 7).trans rfl
     have hcz117_8 : wc.cell? ⟨gb205, 8, none⟩ = some (.int .i64 (-1)) := (blk_cell BK205.out 8).trans rfl
     have hfz117_0 := blk_frozen BK205.out 0
     have hfz117_1 := blk_frozen BK205.out 1
     have hfz117_2 := blk_frozen BK205.out 2
     have hfz117_3 := blk_frozen BK205.out 3
     have hfz117_4 := blk_frozen BK205.out 4
     have hfz117_5 := blk_frozen BK205.out 5
     have hfz117_6 := blk_frozen BK205.out 6
     have hfz117_7 := blk_frozen BK205.out 7
     have hfz117_8 := blk_frozen BK205.out 8
     try go_wp2
     have n0_ : Aside0 (((wc.setCell ⟨gb205, 8, none⟩ (.int .i64 t228)).setCell ⟨gb205, 5, none⟩ (.int .u8 t233)).heap[gb204]? = some (.cells #[.int .i64 0, .string (⟨#[]⟩ : ByteArray), .string (⟨#[]⟩ : ByteArray), .int .i64 0, .int .i64 0, .int .u8 0, .int .i64 0, .int .i64 0, .int .i64 0] 56 (0, 0))) := ⟨by (with_reducible repeat (first | refine blk_drewN ?_ _ | refine blk_drew ?_ | refine blk_alloc ?_ _)); refine blk_far ?_ NB204_205.out _; (with_reducible repeat (first | refine blk_drewN ?_ _ | refine blk_drew ?_ | refine blk_alloc ?_ _)); refine blk_far ?_ NB204_205.out _; (with_reducible repeat (first | refine blk_drewN ?_ _ | refine blk_drew ?_ | refine blk_alloc ?_ _)); exact BK204.out⟩
     have n1_ : Aside0 (((wc.setCell ⟨gb205, 8, none⟩ (.int .i64 t228)).setCell ⟨gb205, 5, none⟩ (.int .u8 t233)).heap[gb205]? = some (.cells #[.int .i64 a1, .string (⟨#[]⟩ : ByteArray), .string (⟨#[]⟩ : ByteArray), .int .i64 0, .int .i64 0, .int .u8 t233, .int .i64 (-1), .int .i64 x206007_5, .int .i64 t228] 56 (0, 0))) := ⟨by (with_reducible repeat (first | refine blk_drewN ?_ _ | refine blk_drew ?_ | refine blk_alloc ?_ _)); refine blk_put (cs := #[.int .i64 a1, .string (⟨#[]⟩ : ByteArray), .string (⟨#[]⟩ : ByteArray), .int .i64 0, .int .i64 0, .int .u8 x206005_5, .int .i64 (-1), .int .i64 x206007_5, .int .i64 t228]) ?_ 5 _ rfl; (with_reducible repeat (first | refine blk_drewN ?_ _ | refine blk_drew ?_ | refine blk_alloc ?_ _)); refine blk_put (cs := #[.int .i64 a1, .string (⟨#[]⟩ : ByteArray), .string (⟨#[]⟩ : ByteArray), .int .i64 0, .int .i64 0, .int .u8 x206005_5, .int .i64 (-1), .int .i64 x206007_5, .int .i64 (-1)]) ?_ 8 _ rfl; (with_reducible repeat (first | refine blk_drewN ?_ _ | refine blk_drew ?_ | refine blk_alloc ?_ _)); exact BK205.out⟩
     have n2_ : Aside0 (((wc.setCell ⟨gb205, 8, none⟩ (.int .i64 t228)).setCell ⟨gb205, 5, none⟩ (.int .u8 t233)).heap[gb215]? = some (.cells #[.int .i64 t206, .int .u8 t207, .int .i64 t208, .string t209, .string t210, .int .i64 t211, .int .i64 t212, .int .u8 t213] 36 (0, 0))) := ⟨by (with_reducible repeat (first | refine blk_drewN ?_ _ | refine blk_drew ?_ | refine blk_alloc ?_ _)); refine blk_far ?_ NB215_205.out _; (with_reducible repeat (first | refine blk_drewN ?_ _ | refine blk_drew ?_ | refine blk_alloc ?_ _)); refine blk_far ?_ NB215_205.out _; (with_reducible repeat (first | refine blk_drewN ?_ _ | refine blk_drew ?_ | refine blk_alloc ?_ _)); exact BK215.out⟩
     have n3_ : Aside0 (((wc.setCell ⟨gb205, 8, none⟩ (.int .i64 t228)).setCell ⟨gb205, 5, none⟩ (.int .u8 t233)).heap[gb225]? = some (.cells #[.int .i64 t216, .int .u8 t217, .int .i64 t218, .string t219, .string t220, .int .i64 t221, .int .i64 t222, .int .u8 t223] 36 (0, 0))) := ⟨by (with_reducible repeat (first | refine blk_drewN ?_ _ | refine blk_drew ?_ | refine blk_alloc ?_ _)); refine blk_far ?_ NB225_205.out _; (with_reducible repeat (first | refine blk_drewN ?_ _ | refine blk_drew ?_ | refine blk_alloc ?_ _)); refine blk_far ?_ NB225_205.out _; (with_reducible repeat (first | refine blk_drewN ?_ _ | refine blk_drew ?_ | refine blk_alloc ?_ _)); exact BK225.out⟩
     have n4_ : Aside0 (((wc.setCell ⟨gb205, 8, none⟩ (.int .i64 t228)).setCell ⟨gb205, 5, none⟩ (.int .u8 t233)).heap[gb235]? = some (.cells #[.int .i64 t226, .int .u8 t227, .int .i64 t228, .string t229, .string t230, .int .i64 t231, .int .i64 t232, .int .u8 t233] 36 (0, 0))) := ⟨by (with_reducible repeat (first | refine blk_drewN ?_ _ | refine blk_drew ?_ | refine blk_alloc ?_ _)); refine blk_far ?_ NB235_205.out _; (with_reducible repeat (first | refine blk_drewN ?_ _ | refine blk_drew ?_ | refine blk_alloc ?_ _)); refine blk_far ?_ NB235_205.out _; (with_reducible repeat (first | refine blk_drewN ?_ _ | refine blk_drew ?_ | refine blk_alloc ?_ _)); exact BK235.out⟩
     have n5_ : Aside0 (((wc.setCell ⟨gb205, 8, none⟩ (.int .i64 t228)).setCell ⟨gb205, 5, none⟩ (.int .u8 t233)).heap[gb236]? = some (.cells #[.int .i64 x237000_5, .int .u8 x237001_5, .int .i64 x237002_5, .string x237003_5, .string x237004_5, .int .i64 x237005_5, .int .i64 x237006_5, .int .u8 x237007_5] 36 (0, 0))) := ⟨by (with_reducible repeat (first | refine blk_drewN ?_ _ | refine blk_drew ?_ | refine blk_alloc ?_ _)); refine blk_far ?_ NB236_205.out _; (with_reducible repeat (first | refine blk_drewN ?_ _ | refine blk_drew ?_ | refine blk_alloc ?_ _)); refine blk_far ?_ NB236_205.out _; (with_reducible repeat (first | refine blk_drewN ?_ _ | refine blk_drew ?_ | refine blk_alloc ?_ _)); exact BK236.out⟩
     have n6_ : Aside0 (Below w.heap.size w ((wc.setCell ⟨gb205, 8, none⟩ (.int .i64 t228)).setCell ⟨gb205, 5, none⟩ (.int .u8 t233))) := ⟨by repeat (first | (with_reducible first | exact HB.out | apply below_alloc | apply pw_below_drewN | apply below_drew1 | refine below_set ?_ GE204.out | refine below_set ?_ GE205.out | refine below_set ?_ GE215.out | refine below_set ?_ GE225.out | refine below_set ?_ GE235.out | refine below_set ?_ GE236.out) | exact HB.out)⟩
     (try clear BK204)
     (try clear BK205)
     (try clear BK215)
     (try clear BK225)
     (try clear BK235)
     (try clear BK236)
     (try clear HB)
     generalize ((wc.setCell ⟨gb205, 8, none⟩ (.int .i64 t228)).setCell ⟨gb205, 5, none⟩ (.int .u8 t233)) = w118 at n0_ n1_ n2_ n3_ n4_ n5_ n6_ ⊢
     have BK204 := n0_
     have BK205 := n1_
     have BK215 := n2_
     have BK225 := n3_
     have BK235 := n4_
     have BK236 := n5_
     have HB := n6_
     clear n0_ n1_ n2_ n3_ n4_ n5_ n6_
     have n0_ := Aside0.mk (blk_drew BK204.out)
     have n1_ := Aside0.mk (blk_drew BK205.out)
     have n2_ := Aside0.mk (blk_drew BK215.out)
     have n3_ := Aside0.mk (blk_drew BK225.out)
     have n4_ := Aside0.mk (blk_drew BK235.out)
     have n5_ := Aside0.mk (blk_drew BK236.out)
     have n6_ := Aside0.mk (below_drew1 HB.out)
     clear BK204
     clear BK205
     clear BK215
     clear BK225
     clear BK235
     clear BK236
     clear HB
     have BK204 := n0_
     have BK205 := n1_
     have BK215 := n2_
     have BK225 := n3_
     have BK235 := n4_
     have BK236 := n5_
     have HB := n6_
     clear n0_ n1_ n2_ n3_ n4_ n5_ n6_
     refine start_ (n := 16) (S := fun w' => w'.cell? ⟨gb236, 0, none⟩ = some (.int .i64 x237000_5) ∧ w'.cell? ⟨gb236, 1, none⟩ = some (.int .u8 x237001_5) ∧ w'.cell? ⟨gb236, 2, none⟩ = some (.int .i64 x237002_5) ∧ w'.cell? ⟨gb236, 3, none⟩ = some (.string x237003_5) ∧ w'.cell? ⟨gb236, 4, none⟩ = some (.string x237004_5) ∧ w'.cell? ⟨gb236, 5, none⟩ = some (.int .i64 x237005_5) ∧ w'.cell? ⟨gb236, 6, none⟩ = some (.int .i64 x237006_5) ∧ w'.cell? ⟨gb236, 7, none⟩ = some (.int .u8 x237007_5)) (ds := []) kPr1316 (by kernel_rfl) rfl rfl ⟨(blk_cell BK236.out 0).trans rfl, (blk_cell BK236.out 1).trans rfl, (blk_cell BK236.out 2).trans rfl, (blk_cell BK236.out 3).trans rfl, (blk_cell BK236.out 4).trans rfl, (blk_cell BK236.out 5).trans rfl, (blk_cell BK236.out 6).trans rfl, (blk_cell BK236.out 7).trans rfl⟩ (fun hHeld => ?_); refine with_tabW musterref27_run.tab16 musterref27_run.bits16 (fun HT_ HW_ => ?_)
     generalize w118.drew = w119 at BK204 BK205 BK215 BK225 BK235 BK236 HB hHeld ⊢
     refine pure_ (i := 0) (N := some 52) (v := ?_) (a' := ?_) kPr1315 rfl rfl (any_of HT_.out (by kernel_rfl)) (fun _ _ _ h => h) (Or.inl ⟨by rfl, ?_⟩) ?_ ?_
     rotate_left
     ·intro w'
      go_simp
      with_reducible rfl
     rotate_left
     ·simp only [Act.put, List.setIfInBounds_toArray, List.set_cons_zero, List.set_cons_succ, i64_w, i32_w]
      rfl
     refine pure_ (i := 2) (N := some 54) (v := ?_) (a' := ?_) kPr1314 rfl rfl (any_of HT_.out (by kernel_rfl)) (fun _ _ _ h => h) (Or.inl ⟨by rfl, ?_⟩) ?_ ?_
     rotate_left
     ·intro w'
      go_simp
      with_reducible rfl
     rotate_left
     ·simp only [Act.put, List.setIfInBounds_toArray, List.set_cons_zero, List.set_cons_succ, i64_w, i32_w]
      rfl
     refine pure_ (i := 4) (N := some 56) (v := ?_) (a' := ?_) kPr1313 rfl rfl (any_of HT_.out (by kernel_rfl)) (fun _ _ _ h => h) (Or.inl ⟨by rfl, ?_⟩) ?_ ?_
     rotate_left
     ·intro w'
      go_simp
      with_reducible rfl
     rotate_left
     ·simp only [Act.put, List.setIfInBounds_toArray, List.set_cons_zero, List.set_cons_succ, i64_w, i32_w]
      rfl
     refine pure_ (i := 6) (N := some 58) (v := ?_) (a' := ?_) kPr1312 rfl rfl (any_of HT_.out (by kernel_rfl)) (fun _ _ _ h => h) (Or.inl ⟨by rfl, ?_⟩) ?_ ?_
     rotate_left
     ·intro w'
      go_simp
      with_reducible rfl
     rotate_left
     ·simp only [Act.put, List.setIfInBounds_toArray, List.set_cons_zero, List.set_cons_succ, i64_w, i32_w]
      rfl
     refine take_ (i := 1) (N := some 53) (v := ?_) (a' := ?_) kPr1311 rfl rfl (take_ofW HT_.out HW_.out (by kernel_rfl)) (fun _ _ _ h => h) (Or.inl ⟨by rfl, ?_⟩) hHeld ?_ ?_
     rotate_left
     ·rintro w' ⟨s0, s1, s2, s3, s4, s5, s6, s7⟩
      go_simp
      with_reducible rfl
     rotate_left
     ·simp only [Act.put, List.setIfInBounds_toArray, List.set_cons_zero, List.set_cons_succ, i64_w, i32_w]
      rfl
     refine pure_ (i := 8) (N := some 60) (v := ?_) (a' := ?_) kPr1310 rfl rfl (any_of HT_.out (by kernel_rfl)) (fun _ _ _ h => h) (Or.inl ⟨by rfl, ?_⟩) ?_ ?_
     rotate_left
     ·intro w'
      go_simp
      with_reducible rfl
     rotate_left
     ·simp only [Act.put, List.setIfInBounds_toArray, List.set_cons_zero, List.set_cons_succ, i64_w, i32_w]
      rfl
     refine take_ (i := 3) (N := some 55) (v := ?_) (a' := ?_) kPr139 rfl rfl (take_ofW HT_.out HW_.out (by kernel_rfl)) (fun _ _ _ h => h) (Or.inl ⟨by rfl, ?_⟩) hHeld ?_ ?_
     rotate_left
     ·rintro w' ⟨s0, s1, s2, s3, s4, s5, s6, s7⟩
      go_simp
      with_reducible rfl
     rotate_left
     ·simp only [Act.put, List.setIfInBounds_toArray, List.set_cons_zero, List.set_cons_succ, i64_w, i32_w]
      rfl
     refine take_ (i := 5) (N := some 57) (v := ?_) (a' := ?_) kPr138 rfl rfl (take_ofW HT_.out HW_.out (by kernel_rfl)) (fun _ _ _ h => h) (Or.inl ⟨by rfl, ?_⟩) hHeld ?_ ?_
     rotate_left
     ·rintro w' ⟨s0, s1, s2, s3, s4, s5, s6, s7⟩
      go_simp
      with_reducible rfl
     rotate_left
     ·simp only [Act.put, List.setIfInBounds_toArray, List.set_cons_zero, List.set_cons_succ, i64_w, i32_w]
      rfl
     refine take_ (i := 7) (N := some 59) (v := ?_) (a' := ?_) kPr137 rfl rfl (take_ofW HT_.out HW_.out (by kernel_rfl)) (fun _ _ _ h => h) (Or.inl ⟨by rfl, ?_⟩) hHeld ?_ ?_
     rotate_left
     ·rintro w' ⟨s0, s1, s2, s3, s4, s5, s6, s7⟩
      go_simp
      with_reducible rfl
     rotate_left
     ·simp only [Act.put, List.setIfInBounds_toArray, List.set_cons_zero, List.set_cons_succ, i64_w, i32_w]
      rfl
     refine one_ (i := 9) (N := none) kPr136 rfl rfl (one_of HT_.out (by kernel_rfl)) (by decide) (fun K hK => ?_)
     have hs120 : w119.cell? ⟨gb205, 1, none⟩ = some (.string (⟨#[]⟩ : ByteArray)) := (blk_cell BK205.out 1).trans rfl
     have hfs120 := blk_frozen BK205.out 1
     have hns120_0 := NB204_205.out
     have hns120_2 := NB215_205.out
     have hns120_3 := NB225_205.out
     have hns120_4 := NB235_205.out
     have hns120_5 := NB236_205.out
     have hms120_0 := NB205_204.out
     have hms120_2 := NB205_215.out
     have hms120_3 := NB205_225.out
     have hms120_4 := NB205_235.out
     have hms120_5 := NB205_236.out
     refine skip_ (w1 := ?_) (by rfl) rfl ?_ ?_
     rotate_left
     ·go_simp
      rfl
     refine hK.out _ _ ⟨((cell_far (p := ⟨gb205, _, none⟩) NB236_205.out _).trans (hHeld.1)), ((cell_far (p := ⟨gb205, _, none⟩) NB236_205.out _).trans (hHeld.2.1)), ((cell_far (p := ⟨gb205, _, none⟩) NB236_205.out _).trans (hHeld.2.2.1)), ((cell_far (p := ⟨gb205, _, none⟩) NB236_205.out _).trans (hHeld.2.2.2.1)), ((cell_far (p := ⟨gb205, _, none⟩) NB236_205.out _).trans (hHeld.2.2.2.2.1)), ((cell_far (p := ⟨gb205, _, none⟩) NB236_205.out _).trans (hHeld.2.2.2.2.2.1)), ((cell_far (p := ⟨gb205, _, none⟩) NB236_205.out _).trans (hHeld.2.2.2.2.2.2.1)), ((cell_far (p := ⟨gb205, _, none⟩) NB236_205.out _).trans (hHeld.2.2.2.2.2.2.2))⟩ (fun hHeld => ?_)
     clear hK K
     refine pure_ (i := 10) (N := some 61) (v := ?_) (a' := ?_) kPr135 rfl rfl (any_of HT_.out (by kernel_rfl)) (fun _ _ _ h => h) (Or.inl ⟨by rfl, ?_⟩) ?_ ?_
     rotate_left
     ·intro w'
      go_simp
      with_reducible rfl
     rotate_left
     ·simp only [Act.put, List.setIfInBounds_toArray, List.set_cons_zero, List.set_cons_succ, i64_w, i32_w]
      rfl
     refine one_ (i := 11) (N := none) kPr134 rfl rfl (one_of HT_.out (by kernel_rfl)) (by decide) (fun K hK => ?_)
     have hs121 : w119.cell? ⟨gb205, 2, none⟩ = some (.string (⟨#[]⟩ : ByteArray)) := (blk_cell BK205.out 2).trans rfl
     have hfs121 := blk_frozen BK205.out 2
     have hns121_0 := NB204_205.out
     have hns121_2 := NB215_205.out
     have hns121_3 := NB225_205.out
     have hns121_4 := NB235_205.out
     have hns121_5 := NB236_205.out
     have hms121_0 := NB205_204.out
     have hms121_2 := NB205_215.out
     have hms121_3 := NB205_225.out
     have hms121_4 := NB205_235.out
     have hms121_5 := NB205_236.out
     refine skip_ (w1 := ?_) (by rfl) rfl ?_ ?_
     rotate_left
     ·go_simp
      rfl
     refine hK.out _ _ ⟨((cell_far (p := ⟨gb205, _, none⟩) NB236_205.out _).trans (hHeld.1)), ((cell_far (p := ⟨gb205, _, none⟩) NB236_205.out _).trans (hHeld.2.1)), ((cell_far (p := ⟨gb205, _, none⟩) NB236_205.out _).trans (hHeld.2.2.1)), ((cell_far (p := ⟨gb205, _, none⟩) NB236_205.out _).trans (hHeld.2.2.2.1)), ((cell_far (p := ⟨gb205, _, none⟩) NB236_205.out _).trans (hHeld.2.2.2.2.1)), ((cell_far (p := ⟨gb205, _, none⟩) NB236_205.out _).trans (hHeld.2.2.2.2.2.1)), ((cell_far (p := ⟨gb205, _, none⟩) NB236_205.out _).trans (hHeld.2.2.2.2.2.2.1)), ((cell_far (p := ⟨gb205, _, none⟩) NB236_205.out _).trans (hHeld.2.2.2.2.2.2.2))⟩ (fun hHeld => ?_)
     clear hK K
     refine pure_ (i := 12) (N := some 62) (v := ?_) (a' := ?_) kPr133 rfl rfl (any_of HT_.out (by kernel_rfl)) (fun _ _ _ h => h) (Or.inl ⟨by rfl, ?_⟩) ?_ ?_
     rotate_left
     ·intro w'
      go_simp
      with_reducible rfl
     rotate_left
     ·simp only [Act.put, List.setIfInBounds_toArray, List.set_cons_zero, List.set_cons_succ, i64_w, i32_w]
      rfl
     refine one_ (i := 13) (N := none) kPr132 rfl rfl (one_of HT_.out (by kernel_rfl)) (by decide) (fun K hK => ?_)
     have hs122 : w119.cell? ⟨gb205, 3, none⟩ = some (.int .i64 0) := (blk_cell BK205.out 3).trans rfl
     have hfs122 := blk_frozen BK205.out 3
     have hns122_0 := NB204_205.out
     have hns122_2 := NB215_205.out
     have hns122_3 := NB225_205.out
     have hns122_4 := NB235_205.out
     have hns122_5 := NB236_205.out
     have hms122_0 := NB205_204.out
     have hms122_2 := NB205_215.out
     have hms122_3 := NB205_225.out
     have hms122_4 := NB205_235.out
     have hms122_5 := NB205_236.out
     refine skip_ (w1 := ?_) (by rfl) rfl ?_ ?_
     rotate_left
     ·go_simp
      rfl
     refine hK.out _ _ ⟨((cell_far (p := ⟨gb205, _, none⟩) NB236_205.out _).trans (hHeld.1)), ((cell_far (p := ⟨gb205, _, none⟩) NB236_205.out _).trans (hHeld.2.1)), ((cell_far (p := ⟨gb205, _, none⟩) NB236_205.out _).trans (hHeld.2.2.1)), ((cell_far (p := ⟨gb205, _, none⟩) NB236_205.out _).trans (hHeld.2.2.2.1)), ((cell_far (p := ⟨gb205, _, none⟩) NB236_205.out _).trans (hHeld.2.2.2.2.1)), ((cell_far (p := ⟨gb205, _, none⟩) NB236_205.out _).trans (hHeld.2.2.2.2.2.1)), ((cell_far (p := ⟨gb205, _, none⟩) NB236_205.out _).trans (hHeld.2.2.2.2.2.2.1)), ((cell_far (p := ⟨gb205, _, none⟩) NB236_205.out _).trans (hHeld.2.2.2.2.2.2.2))⟩ (fun hHeld => ?_)
     clear hK K
     refine pure_ (i := 14) (N := some 63) (v := ?_) (a' := ?_) kPr131 rfl rfl (any_of HT_.out (by kernel_rfl)) (fun _ _ _ h => h) (Or.inl ⟨by rfl, ?_⟩) ?_ ?_
     rotate_left
     ·intro w'
      go_simp
      with_reducible rfl
     rotate_left
     ·simp only [Act.put, List.setIfInBounds_toArray, List.set_cons_zero, List.set_cons_succ, i64_w, i32_w]
      rfl
     refine one_ (i := 15) (N := none) kPr130 rfl rfl (one_of HT_.out (by kernel_rfl)) (by decide) (fun K hK => ?_)
     have hs123 : w119.cell? ⟨gb205, 4, none⟩ = some (.int .i64 0) := (blk_cell BK205.out 4).trans rfl
     have hfs123 := blk_frozen BK205.out 4
     have hns123_0 := NB204_205.out
     have hns123_2 := NB215_205.out
     have hns123_3 := NB225_205.out
     have hns123_4 := NB235_205.out
     have hns123_5 := NB236_205.out
     have hms123_0 := NB205_204.out
     have hms123_2 := NB205_215.out
     have hms123_3 := NB205_225.out
     have hms123_4 := NB205_235.out
     have hms123_5 := NB205_236.out
     refine skip_ (w1 := ?_) (by rfl) rfl ?_ ?_
     rotate_left
     ·go_simp
      rfl
     refine hK.out _ _ ⟨((cell_far (p := ⟨gb205, _, none⟩) NB236_205.out _).trans (hHeld.1)), ((cell_far (p := ⟨gb205, _, none⟩) NB236_205.out _).trans (hHeld.2.1)), ((cell_far (p := ⟨gb205, _, none⟩) NB236_205.out _).trans (hHeld.2.2.1)), ((cell_far (p := ⟨gb205, _, none⟩) NB236_205.out _).trans (hHeld.2.2.2.1)), ((cell_far (p := ⟨gb205, _, none⟩) NB236_205.out _).trans (hHeld.2.2.2.2.1)), ((cell_far (p := ⟨gb205, _, none⟩) NB236_205.out _).trans (hHeld.2.2.2.2.2.1)), ((cell_far (p := ⟨gb205, _, none⟩) NB236_205.out _).trans (hHeld.2.2.2.2.2.2.1)), ((cell_far (p := ⟨gb205, _, none⟩) NB236_205.out _).trans (hHeld.2.2.2.2.2.2.2))⟩ (fun hHeld => ?_)
     clear hK K
     refine done_ (done_of HT_.out (by kernel_rfl)) ?_
     have hcz124_0 : w119.cell? ⟨gb205, 0, none⟩ = some (.int .i64 a1) := (blk_cell BK205.out 0).trans rfl
     have hcz124_1 : w119.cell? ⟨gb205, 1, none⟩ = some (.string (⟨#[]⟩ : ByteArray)) := (blk_cell BK205.out 1).trans rfl
     have hcz124_2 : w119.cell? ⟨gb205, 2, none⟩ = some (.string (⟨#[]⟩ : ByteArray)) := (blk_cell BK205.out 2).trans rfl
     have hcz124_3 : w119.cell? ⟨gb205, 3, none⟩ = some (.int .i64 0) := (blk_cell BK205.out 3).trans rfl
     have hcz124_4 : w119.cell? ⟨gb205, 4, none⟩ = some (.int .i64 0) := (blk_cell BK205.out 4).trans rfl
     have hcz124_5 : w119.cell? ⟨gb205, 5, none⟩ = some (.int .u8 t233) := (blk_cell BK205.out 5).trans rfl
     have hcz124_6 : w119.cell? ⟨gb205, 6, none⟩ = some (.int .i64 (-1)) := (blk_cell BK205.out 6).trans rfl
     have hcz124_7 : w119.cell? ⟨gb205, 7, none⟩ = some (.int .i64 x206007_5) := (blk_cell BK205.out 7).trans rfl
     have hcz124_8 : w119.cell? ⟨gb205, 8, none⟩ = some (.int .i64 t228) := (blk_cell BK205.out 8).trans rfl
     have hfz124_0 := blk_frozen BK205.out 0
     have hfz124_1 := blk_frozen BK205.out 1
     have hfz124_2 := blk_frozen BK205.out 2
     have hfz124_3 := blk_frozen BK205.out 3
     have hfz124_4 := blk_frozen BK205.out 4
     have hfz124_5 := blk_frozen BK205.out 5
     have hfz124_6 := blk_frozen BK205.out 6
     have hfz124_7 := blk_frozen BK205.out 7
     have hfz124_8 := blk_frozen BK205.out 8
     have hnb125 := NB204_215.out
     have hnc125 := NB215_204.out
     have hnb126 := NB204_225.out
     have hnc126 := NB225_204.out
     have hnb127 := NB204_236.out
     have hnc127 := NB236_204.out
     have hcz128_0 : w119.cell? ⟨gb204, 0, none⟩ = some (.int .i64 0) := (blk_cell BK204.out 0).trans rfl
     have hcz128_1 : w119.cell? ⟨gb204, 1, none⟩ = some (.string (⟨#[]⟩ : ByteArray)) := (blk_cell BK204.out 1).trans rfl
     have hcz128_2 : w119.cell? ⟨gb204, 2, none⟩ = some (.string (⟨#[]⟩ : ByteArray)) := (blk_cell BK204.out 2).trans rfl
     have hcz128_3 : w119.cell? ⟨gb204, 3, none⟩ = some (.int .i64 0) := (blk_cell BK204.out 3).trans rfl
     have hcz128_4 : w119.cell? ⟨gb204, 4, none⟩ = some (.int .i64 0) := (blk_cell BK204.out 4).trans rfl
     have hcz128_5 : w119.cell? ⟨gb204, 5, none⟩ = some (.int .u8 0) := (blk_cell BK204.out 5).trans rfl
     have hcz128_6 : w119.cell? ⟨gb204, 6, none⟩ = some (.int .i64 0) := (blk_cell BK204.out 6).trans rfl
     have hcz128_7 : w119.cell? ⟨gb204, 7, none⟩ = some (.int .i64 0) := (blk_cell BK204.out 7).trans rfl
     have hcz128_8 : w119.cell? ⟨gb204, 8, none⟩ = some (.int .i64 0) := (blk_cell BK204.out 8).trans rfl
     have hfz128_0 := blk_frozen BK204.out 0
     have hfz128_1 := blk_frozen BK204.out 1
     have hfz128_2 := blk_frozen BK204.out 2
     have hfz128_3 := blk_frozen BK204.out 3
     have hfz128_4 := blk_frozen BK204.out 4
     have hfz128_5 := blk_frozen BK204.out 5
     have hfz128_6 := blk_frozen BK204.out 6
     have hfz128_7 := blk_frozen BK204.out 7
     have hfz128_8 := blk_frozen BK204.out 8
     try go_wp2
     refine bodyPost_ret (results_cell_row rfl _ _ gb204 56 #[.int .i64 a1, .string x237003_5, .string x237004_5, .int .i64 x237005_5, .int .i64 x237006_5, .int .u8 t233, .int .i64 (-1), .int .i64 x206007_5, .int .i64 t228] (0, 0) _ rfl (by (with_reducible repeat (first | refine blk_drewN ?_ _ | refine blk_drew ?_ | refine blk_alloc ?_ _)); refine blk_put (cs := #[.int .i64 a1, .string x237003_5, .string x237004_5, .int .i64 x237005_5, .int .i64 x237006_5, .int .u8 t233, .int .i64 (-1), .int .i64 x206007_5, .int .i64 0]) ?_ 8 _ rfl; (with_reducible repeat (first | refine blk_drewN ?_ _ | refine blk_drew ?_ | refine blk_alloc ?_ _)); refine blk_put (cs := #[.int .i64 a1, .string x237003_5, .string x237004_5, .int .i64 x237005_5, .int .i64 x237006_5, .int .u8 t233, .int .i64 (-1), .int .i64 0, .int .i64 0]) ?_ 7 _ rfl; (with_reducible repeat (first | refine blk_drewN ?_ _ | refine blk_drew ?_ | refine blk_alloc ?_ _)); refine blk_put (cs := #[.int .i64 a1, .string x237003_5, .string x237004_5, .int .i64 x237005_5, .int .i64 x237006_5, .int .u8 t233, .int .i64 0, .int .i64 0, .int .i64 0]) ?_ 6 _ rfl; (with_reducible repeat (first | refine blk_drewN ?_ _ | refine blk_drew ?_ | refine blk_alloc ?_ _)); refine blk_put (cs := #[.int .i64 a1, .string x237003_5, .string x237004_5, .int .i64 x237005_5, .int .i64 x237006_5, .int .u8 0, .int .i64 0, .int .i64 0, .int .i64 0]) ?_ 5 _ rfl; (with_reducible repeat (first | refine blk_drewN ?_ _ | refine blk_drew ?_ | refine blk_alloc ?_ _)); refine blk_put (cs := #[.int .i64 a1, .string x237003_5, .string x237004_5, .int .i64 x237005_5, .int .i64 0, .int .u8 0, .int .i64 0, .int .i64 0, .int .i64 0]) ?_ 4 _ rfl; (with_reducible repeat (first | refine blk_drewN ?_ _ | refine blk_drew ?_ | refine blk_alloc ?_ _)); refine blk_put (cs := #[.int .i64 a1, .string x237003_5, .string x237004_5, .int .i64 0, .int .i64 0, .int .u8 0, .int .i64 0, .int .i64 0, .int .i64 0]) ?_ 3 _ rfl; (with_reducible repeat (first | refine blk_drewN ?_ _ | refine blk_drew ?_ | refine blk_alloc ?_ _)); refine blk_put (cs := #[.int .i64 a1, .string x237003_5, .string (⟨#[]⟩ : ByteArray), .int .i64 0, .int .i64 0, .int .u8 0, .int .i64 0, .int .i64 0, .int .i64 0]) ?_ 2 _ rfl; (with_reducible repeat (first | refine blk_drewN ?_ _ | refine blk_drew ?_ | refine blk_alloc ?_ _)); refine blk_put (cs := #[.int .i64 a1, .string (⟨#[]⟩ : ByteArray), .string (⟨#[]⟩ : ByteArray), .int .i64 0, .int .i64 0, .int .u8 0, .int .i64 0, .int .i64 0, .int .i64 0]) ?_ 1 _ rfl; (with_reducible repeat (first | refine blk_drewN ?_ _ | refine blk_drew ?_ | refine blk_alloc ?_ _)); refine blk_put (cs := #[.int .i64 0, .string (⟨#[]⟩ : ByteArray), .string (⟨#[]⟩ : ByteArray), .int .i64 0, .int .i64 0, .int .u8 0, .int .i64 0, .int .i64 0, .int .i64 0]) ?_ 0 _ rfl; (with_reducible repeat (first | refine blk_drewN ?_ _ | refine blk_drew ?_ | refine blk_alloc ?_ _)); refine blk_far ?_ NB204_205.out _; (with_reducible repeat (first | refine blk_drewN ?_ _ | refine blk_drew ?_ | refine blk_alloc ?_ _)); refine blk_far ?_ NB204_205.out _; (with_reducible repeat (first | refine blk_drewN ?_ _ | refine blk_drew ?_ | refine blk_alloc ?_ _)); refine blk_far ?_ NB204_205.out _; (with_reducible repeat (first | refine blk_drewN ?_ _ | refine blk_drew ?_ | refine blk_alloc ?_ _)); refine blk_far ?_ NB204_205.out _; (with_reducible repeat (first | refine blk_drewN ?_ _ | refine blk_drew ?_ | refine blk_alloc ?_ _)); exact BK204.out) Try.underlying56 rfl (by kernel_rfl)) rfl ?_
     exact ⟨by first | rfl | (simp [errW_none, errW_some] <;> rfl) | (simp [*, errW_none, errW_some] <;> rfl), by repeat (first | (with_reducible first | exact HB.out | apply below_alloc | apply pw_below_drewN | apply below_drew1 | refine below_set ?_ GE204.out | refine below_set ?_ GE205.out | refine below_set ?_ GE215.out | refine below_set ?_ GE225.out | refine below_set ?_ GE235.out | refine below_set ?_ GE236.out) | exact HB.out)⟩
    ·replace c106 := Bool.eq_false_iff.mpr c106
     subst c106
     have H1 : (some (a1, x237003_5, x237004_5, x237005_5, x237006_5, x206005_5, (-1), x206007_5, (-1))) = some (r1, r2, r3, r4, r5, r6, r7, r8, r9) := by rw [if_neg (show ¬ (false = true) by decide)] at H; exact H
     clear H
     have H := H1
     clear H1
     simp only [Option.some.injEq, Prod.mk.injEq] at H
     obtain ⟨rfl, rfl, rfl, rfl, rfl, rfl, rfl, rfl, rfl⟩ := H
     try go_wp2
     have n0_ := Aside0.mk (blk_drew BK204.out)
     have n1_ := Aside0.mk (blk_drew BK205.out)
     have n2_ := Aside0.mk (blk_drew BK215.out)
     have n3_ := Aside0.mk (blk_drew BK225.out)
     have n4_ := Aside0.mk (blk_drew BK235.out)
     have n5_ := Aside0.mk (blk_drew BK236.out)
     have n6_ := Aside0.mk (below_drew1 HB.out)
     clear BK204
     clear BK205
     clear BK215
     clear BK225
     clear BK235
     clear BK236
     clear HB
     have BK204 := n0_
     have BK205 := n1_
     have BK215 := n2_
     have BK225 := n3_
     have BK235 := n4_
     have BK236 := n5_
     have HB := n6_
     clear n0_ n1_ n2_ n3_ n4_ n5_ n6_
     refine start_ (n := 16) (S := fun w' => w'.cell? ⟨gb236, 0, none⟩ = some (.int .i64 x237000_5) ∧ w'.cell? ⟨gb236, 1, none⟩ = some (.int .u8 x237001_5) ∧ w'.cell? ⟨gb236, 2, none⟩ = some (.int .i64 x237002_5) ∧ w'.cell? ⟨gb236, 3, none⟩ = some (.string x237003_5) ∧ w'.cell? ⟨gb236, 4, none⟩ = some (.string x237004_5) ∧ w'.cell? ⟨gb236, 5, none⟩ = some (.int .i64 x237005_5) ∧ w'.cell? ⟨gb236, 6, none⟩ = some (.int .i64 x237006_5) ∧ w'.cell? ⟨gb236, 7, none⟩ = some (.int .u8 x237007_5)) (ds := []) kPr1316 (by kernel_rfl) rfl rfl ⟨(blk_cell BK236.out 0).trans rfl, (blk_cell BK236.out 1).trans rfl, (blk_cell BK236.out 2).trans rfl, (blk_cell BK236.out 3).trans rfl, (blk_cell BK236.out 4).trans rfl, (blk_cell BK236.out 5).trans rfl, (blk_cell BK236.out 6).trans rfl, (blk_cell BK236.out 7).trans rfl⟩ (fun hHeld => ?_); refine with_tabW musterref27_run.tab16 musterref27_run.bits16 (fun HT_ HW_ => ?_)
     generalize wc.drew = w129 at BK204 BK205 BK215 BK225 BK235 BK236 HB hHeld ⊢
     refine pure_ (i := 0) (N := some 52) (v := ?_) (a' := ?_) kPr1315 rfl rfl (any_of HT_.out (by kernel_rfl)) (fun _ _ _ h => h) (Or.inl ⟨by rfl, ?_⟩) ?_ ?_
     rotate_left
     ·intro w'
      go_simp
      with_reducible rfl
     rotate_left
     ·simp only [Act.put, List.setIfInBounds_toArray, List.set_cons_zero, List.set_cons_succ, i64_w, i32_w]
      rfl
     refine pure_ (i := 2) (N := some 54) (v := ?_) (a' := ?_) kPr1314 rfl rfl (any_of HT_.out (by kernel_rfl)) (fun _ _ _ h => h) (Or.inl ⟨by rfl, ?_⟩) ?_ ?_
     rotate_left
     ·intro w'
      go_simp
      with_reducible rfl
     rotate_left
     ·simp only [Act.put, List.setIfInBounds_toArray, List.set_cons_zero, List.set_cons_succ, i64_w, i32_w]
      rfl
     refine pure_ (i := 4) (N := some 56) (v := ?_) (a' := ?_) kPr1313 rfl rfl (any_of HT_.out (by kernel_rfl)) (fun _ _ _ h => h) (Or.inl ⟨by rfl, ?_⟩) ?_ ?_
     rotate_left
     ·intro w'
      go_simp
      with_reducible rfl
     rotate_left
     ·simp only [Act.put, List.setIfInBounds_toArray, List.set_cons_zero, List.set_cons_succ, i64_w, i32_w]
      rfl
     refine pure_ (i := 6) (N := some 58) (v := ?_) (a' := ?_) kPr1312 rfl rfl (any_of HT_.out (by kernel_rfl)) (fun _ _ _ h => h) (Or.inl ⟨by rfl, ?_⟩) ?_ ?_
     rotate_left
     ·intro w'
      go_simp
      with_reducible rfl
     rotate_left
     ·simp only [Act.put, List.setIfInBounds_toArray, List.set_cons_zero, List.set_cons_succ, i64_w, i32_w]
      rfl
     refine take_ (i := 1) (N := some 53) (v := ?_) (a' := ?_) kPr1311 rfl rfl (take_ofW HT_.out HW_.out (by kernel_rfl)) (fun _ _ _ h => h) (Or.inl ⟨by rfl, ?_⟩) hHeld ?_ ?_
     rotate_left
     ·rintro w' ⟨s0, s1, s2, s3, s4, s5, s6, s7⟩
      go_simp
      with_reducible rfl
     rotate_left
     ·simp only [Act.put, List.setIfInBounds_toArray, List.set_cons_zero, List.set_cons_succ, i64_w, i32_w]
      rfl
     refine pure_ (i := 8) (N := some 60) (v := ?_) (a' := ?_) kPr1310 rfl rfl (any_of HT_.out (by kernel_rfl)) (fun _ _ _ h => h) (Or.inl ⟨by rfl, ?_⟩) ?_ ?_
     rotate_left
     ·intro w'
      go_simp
      with_reducible rfl
     rotate_left
     ·simp only [Act.put, List.setIfInBounds_toArray, List.set_cons_zero, List.set_cons_succ, i64_w, i32_w]
      rfl
     refine take_ (i := 3) (N := some 55) (v := ?_) (a' := ?_) kPr139 rfl rfl (take_ofW HT_.out HW_.out (by kernel_rfl)) (fun _ _ _ h => h) (Or.inl ⟨by rfl, ?_⟩) hHeld ?_ ?_
     rotate_left
     ·rintro w' ⟨s0, s1, s2, s3, s4, s5, s6, s7⟩
      go_simp
      with_reducible rfl
     rotate_left
     ·simp only [Act.put, List.setIfInBounds_toArray, List.set_cons_zero, List.set_cons_succ, i64_w, i32_w]
      rfl
     refine take_ (i := 5) (N := some 57) (v := ?_) (a' := ?_) kPr138 rfl rfl (take_ofW HT_.out HW_.out (by kernel_rfl)) (fun _ _ _ h => h) (Or.inl ⟨by rfl, ?_⟩) hHeld ?_ ?_
     rotate_left
     ·rintro w' ⟨s0, s1, s2, s3, s4, s5, s6, s7⟩
      go_simp
      with_reducible rfl
     rotate_left
     ·simp only [Act.put, List.setIfInBounds_toArray, List.set_cons_zero, List.set_cons_succ, i64_w, i32_w]
      rfl
     refine take_ (i := 7) (N := some 59) (v := ?_) (a' := ?_) kPr137 rfl rfl (take_ofW HT_.out HW_.out (by kernel_rfl)) (fun _ _ _ h => h) (Or.inl ⟨by rfl, ?_⟩) hHeld ?_ ?_
     rotate_left
     ·rintro w' ⟨s0, s1, s2, s3, s4, s5, s6, s7⟩
      go_simp
      with_reducible rfl
     rotate_left
     ·simp only [Act.put, List.setIfInBounds_toArray, List.set_cons_zero, List.set_cons_succ, i64_w, i32_w]
      rfl
     refine one_ (i := 9) (N := none) kPr136 rfl rfl (one_of HT_.out (by kernel_rfl)) (by decide) (fun K hK => ?_)
     have hs130 : w129.cell? ⟨gb205, 1, none⟩ = some (.string (⟨#[]⟩ : ByteArray)) := (blk_cell BK205.out 1).trans rfl
     have hfs130 := blk_frozen BK205.out 1
     have hns130_0 := NB204_205.out
     have hns130_2 := NB215_205.out
     have hns130_3 := NB225_205.out
     have hns130_4 := NB235_205.out
     have hns130_5 := NB236_205.out
     have hms130_0 := NB205_204.out
     have hms130_2 := NB205_215.out
     have hms130_3 := NB205_225.out
     have hms130_4 := NB205_235.out
     have hms130_5 := NB205_236.out
     refine skip_ (w1 := ?_) (by rfl) rfl ?_ ?_
     rotate_left
     ·go_simp
      rfl
     refine hK.out _ _ ⟨((cell_far (p := ⟨gb205, _, none⟩) NB236_205.out _).trans (hHeld.1)), ((cell_far (p := ⟨gb205, _, none⟩) NB236_205.out _).trans (hHeld.2.1)), ((cell_far (p := ⟨gb205, _, none⟩) NB236_205.out _).trans (hHeld.2.2.1)), ((cell_far (p := ⟨gb205, _, none⟩) NB236_205.out _).trans (hHeld.2.2.2.1)), ((cell_far (p := ⟨gb205, _, none⟩) NB236_205.out _).trans (hHeld.2.2.2.2.1)), ((cell_far (p := ⟨gb205, _, none⟩) NB236_205.out _).trans (hHeld.2.2.2.2.2.1)), ((cell_far (p := ⟨gb205, _, none⟩) NB236_205.out _).trans (hHeld.2.2.2.2.2.2.1)), ((cell_far (p := ⟨gb205, _, none⟩) NB236_205.out _).trans (hHeld.2.2.2.2.2.2.2))⟩ (fun hHeld => ?_)
     clear hK K
     refine pure_ (i := 10) (N := some 61) (v := ?_) (a' := ?_) kPr135 rfl rfl (any_of HT_.out (by kernel_rfl)) (fun _ _ _ h => h) (Or.inl ⟨by rfl, ?_⟩) ?_ ?_
     rotate_left
     ·intro w'
      go_simp
      with_reducible rfl
     rotate_left
     ·simp only [Act.put, List.setIfInBounds_toArray, List.set_cons_zero, List.set_cons_succ, i64_w, i32_w]
      rfl
     refine one_ (i := 11) (N := none) kPr134 rfl rfl (one_of HT_.out (by kernel_rfl)) (by decide) (fun K hK => ?_)
     have hs131 : w129.cell? ⟨gb205, 2, none⟩ = some (.string (⟨#[]⟩ : ByteArray)) := (blk_cell BK205.out 2).trans rfl
     have hfs131 := blk_frozen BK205.out 2
     have hns131_0 := NB204_205.out
     have hns131_2 := NB215_205.out
     have hns131_3 := NB225_205.out
     have hns131_4 := NB235_205.out
     have hns131_5 := NB236_205.out
     have hms131_0 := NB205_204.out
     have hms131_2 := NB205_215.out
     have hms131_3 := NB205_225.out
     have hms131_4 := NB205_235.out
     have hms131_5 := NB205_236.out
     refine skip_ (w1 := ?_) (by rfl) rfl ?_ ?_
     rotate_left
     ·go_simp
      rfl
     refine hK.out _ _ ⟨((cell_far (p := ⟨gb205, _, none⟩) NB236_205.out _).trans (hHeld.1)), ((cell_far (p := ⟨gb205, _, none⟩) NB236_205.out _).trans (hHeld.2.1)), ((cell_far (p := ⟨gb205, _, none⟩) NB236_205.out _).trans (hHeld.2.2.1)), ((cell_far (p := ⟨gb205, _, none⟩) NB236_205.out _).trans (hHeld.2.2.2.1)), ((cell_far (p := ⟨gb205, _, none⟩) NB236_205.out _).trans (hHeld.2.2.2.2.1)), ((cell_far (p := ⟨gb205, _, none⟩) NB236_205.out _).trans (hHeld.2.2.2.2.2.1)), ((cell_far (p := ⟨gb205, _, none⟩) NB236_205.out _).trans (hHeld.2.2.2.2.2.2.1)), ((cell_far (p := ⟨gb205, _, none⟩) NB236_205.out _).trans (hHeld.2.2.2.2.2.2.2))⟩ (fun hHeld => ?_)
     clear hK K
     refine pure_ (i := 12) (N := some 62) (v := ?_) (a' := ?_) kPr133 rfl rfl (any_of HT_.out (by kernel_rfl)) (fun _ _ _ h => h) (Or.inl ⟨by rfl, ?_⟩) ?_ ?_
     rotate_left
     ·intro w'
      go_simp
      with_reducible rfl
     rotate_left
     ·simp only [Act.put, List.setIfInBounds_toArray, List.set_cons_zero, List.set_cons_succ, i64_w, i32_w]
      rfl
     refine one_ (i := 13) (N := none) kPr132 rfl rfl (one_of HT_.out (by kernel_rfl)) (by decide) (fun K hK => ?_)
     have hs132 : w129.cell? ⟨gb205, 3, none⟩ = some (.int .i64 0) := (blk_cell BK205.out 3).trans rfl
     have hfs132 := blk_frozen BK205.out 3
     have hns132_0 := NB204_205.out
     have hns132_2 := NB215_205.out
     have hns132_3 := NB225_205.out
     have hns132_4 := NB235_205.out
     have hns132_5 := NB236_205.out
     have hms132_0 := NB205_204.out
     have hms132_2 := NB205_215.out
     have hms132_3 := NB205_225.out
     have hms132_4 := NB205_235.out
     have hms132_5 := NB205_236.out
     refine skip_ (w1 := ?_) (by rfl) rfl ?_ ?_
     rotate_left
     ·go_simp
      rfl
     refine hK.out _ _ ⟨((cell_far (p := ⟨gb205, _, none⟩) NB236_205.out _).trans (hHeld.1)), ((cell_far (p := ⟨gb205, _, none⟩) NB236_205.out _).trans (hHeld.2.1)), ((cell_far (p := ⟨gb205, _, none⟩) NB236_205.out _).trans (hHeld.2.2.1)), ((cell_far (p := ⟨gb205, _, none⟩) NB236_205.out _).trans (hHeld.2.2.2.1)), ((cell_far (p := ⟨gb205, _, none⟩) NB236_205.out _).trans (hHeld.2.2.2.2.1)), ((cell_far (p := ⟨gb205, _, none⟩) NB236_205.out _).trans (hHeld.2.2.2.2.2.1)), ((cell_far (p := ⟨gb205, _, none⟩) NB236_205.out _).trans (hHeld.2.2.2.2.2.2.1)), ((cell_far (p := ⟨gb205, _, none⟩) NB236_205.out _).trans (hHeld.2.2.2.2.2.2.2))⟩ (fun hHeld => ?_)
     clear hK K
     refine pure_ (i := 14) (N := some 63) (v := ?_) (a' := ?_) kPr131 rfl rfl (any_of HT_.out (by kernel_rfl)) (fun _ _ _ h => h) (Or.inl ⟨by rfl, ?_⟩) ?_ ?_
     rotate_left
     ·intro w'
      go_simp
      with_reducible rfl
     rotate_left
     ·simp only [Act.put, List.setIfInBounds_toArray, List.set_cons_zero, List.set_cons_succ, i64_w, i32_w]
      rfl
     refine one_ (i := 15) (N := none) kPr130 rfl rfl (one_of HT_.out (by kernel_rfl)) (by decide) (fun K hK => ?_)
     have hs133 : w129.cell? ⟨gb205, 4, none⟩ = some (.int .i64 0) := (blk_cell BK205.out 4).trans rfl
     have hfs133 := blk_frozen BK205.out 4
     have hns133_0 := NB204_205.out
     have hns133_2 := NB215_205.out
     have hns133_3 := NB225_205.out
     have hns133_4 := NB235_205.out
     have hns133_5 := NB236_205.out
     have hms133_0 := NB205_204.out
     have hms133_2 := NB205_215.out
     have hms133_3 := NB205_225.out
     have hms133_4 := NB205_235.out
     have hms133_5 := NB205_236.out
     refine skip_ (w1 := ?_) (by rfl) rfl ?_ ?_
     rotate_left
     ·go_simp
      rfl
     refine hK.out _ _ ⟨((cell_far (p := ⟨gb205, _, none⟩) NB236_205.out _).trans (hHeld.1)), ((cell_far (p := ⟨gb205, _, none⟩) NB236_205.out _).trans (hHeld.2.1)), ((cell_far (p := ⟨gb205, _, none⟩) NB236_205.out _).trans (hHeld.2.2.1)), ((cell_far (p := ⟨gb205, _, none⟩) NB236_205.out _).trans (hHeld.2.2.2.1)), ((cell_far (p := ⟨gb205, _, none⟩) NB236_205.out _).trans (hHeld.2.2.2.2.1)), ((cell_far (p := ⟨gb205, _, none⟩) NB236_205.out _).trans (hHeld.2.2.2.2.2.1)), ((cell_far (p := ⟨gb205, _, none⟩) NB236_205.out _).trans (hHeld.2.2.2.2.2.2.1)), ((cell_far (p := ⟨gb205, _, none⟩) NB236_205.out _).trans (hHeld.2.2.2.2.2.2.2))⟩ (fun hHeld => ?_)
     clear hK K
     refine done_ (done_of HT_.out (by kernel_rfl)) ?_
     have hnb134 := NB205_204.out
     have hnc134 := NB204_205.out
     have hnb135 := NB205_215.out
     have hnc135 := NB215_205.out
     have hnb136 := NB205_225.out
     have hnc136 := NB225_205.out
     have hnb137 := NB205_235.out
     have hnc137 := NB235_205.out
     have hnb138 := NB205_236.out
     have hnc138 := NB236_205.out
     have hcz139_0 : w129.cell? ⟨gb205, 0, none⟩ = some (.int .i64 a1) := (blk_cell BK205.out 0).trans rfl
     have hcz139_1 : w129.cell? ⟨gb205, 1, none⟩ = some (.string (⟨#[]⟩ : ByteArray)) := (blk_cell BK205.out 1).trans rfl
     have hcz139_2 : w129.cell? ⟨gb205, 2, none⟩ = some (.string (⟨#[]⟩ : ByteArray)) := (blk_cell BK205.out 2).trans rfl
     have hcz139_3 : w129.cell? ⟨gb205, 3, none⟩ = some (.int .i64 0) := (blk_cell BK205.out 3).trans rfl
     have hcz139_4 : w129.cell? ⟨gb205, 4, none⟩ = some (.int .i64 0) := (blk_cell BK205.out 4).trans rfl
     have hcz139_5 : w129.cell? ⟨gb205, 5, none⟩ = some (.int .u8 x206005_5) := (blk_cell BK205.out 5).trans rfl
     have hcz139_6 : w129.cell? ⟨gb205, 6, none⟩ = some (.int .i64 (-1)) := (blk_cell BK205.out 6).trans rfl
     have hcz139_7 : w129.cell? ⟨gb205, 7, none⟩ = some (.int .i64 x206007_5) := (blk_cell BK205.out 7).trans rfl
     have hcz139_8 : w129.cell? ⟨gb205, 8, none⟩ = some (.int .i64 (-1)) := (blk_cell BK205.out 8).trans rfl
     have hfz139_0 := blk_frozen BK205.out 0
     have hfz139_1 := blk_frozen BK205.out 1
     have hfz139_2 := blk_frozen BK205.out 2
     have hfz139_3 := blk_frozen BK205.out 3
     have hfz139_4 := blk_frozen BK205.out 4
     have hfz139_5 := blk_frozen BK205.out 5
     have hfz139_6 := blk_frozen BK205.out 6
     have hfz139_7 := blk_frozen BK205.out 7
     have hfz139_8 := blk_frozen BK205.out 8
     have hnb140 := NB204_215.out
     have hnc140 := NB215_204.out
     have hnb141 := NB204_225.out
     have hnc141 := NB225_204.out
     have hnb142 := NB204_235.out
     have hnc142 := NB235_204.out
     have hnb143 := NB204_236.out
     have hnc143 := NB236_204.out
     have hcz144_0 : w129.cell? ⟨gb204, 0, none⟩ = some (.int .i64 0) := (blk_cell BK204.out 0).trans rfl
     have hcz144_1 : w129.cell? ⟨gb204, 1, none⟩ = some (.string (⟨#[]⟩ : ByteArray)) := (blk_cell BK204.out 1).trans rfl
     have hcz144_2 : w129.cell? ⟨gb204, 2, none⟩ = some (.string (⟨#[]⟩ : ByteArray)) := (blk_cell BK204.out 2).trans rfl
     have hcz144_3 : w129.cell? ⟨gb204, 3, none⟩ = some (.int .i64 0) := (blk_cell BK204.out 3).trans rfl
     have hcz144_4 : w129.cell? ⟨gb204, 4, none⟩ = some (.int .i64 0) := (blk_cell BK204.out 4).trans rfl
     have hcz144_5 : w129.cell? ⟨gb204, 5, none⟩ = some (.int .u8 0) := (blk_cell BK204.out 5).trans rfl
     have hcz144_6 : w129.cell? ⟨gb204, 6, none⟩ = some (.int .i64 0) := (blk_cell BK204.out 6).trans rfl
     have hcz144_7 : w129.cell? ⟨gb204, 7, none⟩ = some (.int .i64 0) := (blk_cell BK204.out 7).trans rfl
     have hcz144_8 : w129.cell? ⟨gb204, 8, none⟩ = some (.int .i64 0) := (blk_cell BK204.out 8).trans rfl
     have hfz144_0 := blk_frozen BK204.out 0
     have hfz144_1 := blk_frozen BK204.out 1
     have hfz144_2 := blk_frozen BK204.out 2
     have hfz144_3 := blk_frozen BK204.out 3
     have hfz144_4 := blk_frozen BK204.out 4
     have hfz144_5 := blk_frozen BK204.out 5
     have hfz144_6 := blk_frozen BK204.out 6
     have hfz144_7 := blk_frozen BK204.out 7
     have hfz144_8 := blk_frozen BK204.out 8
     try go_wp2
     refine bodyPost_ret (results_cell_row rfl _ _ gb204 56 #[.int .i64 a1, .string x237003_5, .string x237004_5, .int .i64 x237005_5, .int .i64 x237006_5, .int .u8 x206005_5, .int .i64 (-1), .int .i64 x206007_5, .int .i64 (-1)] (0, 0) _ rfl (by (with_reducible repeat (first | refine blk_drewN ?_ _ | refine blk_drew ?_ | refine blk_alloc ?_ _)); refine blk_put (cs := #[.int .i64 a1, .string x237003_5, .string x237004_5, .int .i64 x237005_5, .int .i64 x237006_5, .int .u8 x206005_5, .int .i64 (-1), .int .i64 x206007_5, .int .i64 0]) ?_ 8 _ rfl; (with_reducible repeat (first | refine blk_drewN ?_ _ | refine blk_drew ?_ | refine blk_alloc ?_ _)); refine blk_put (cs := #[.int .i64 a1, .string x237003_5, .string x237004_5, .int .i64 x237005_5, .int .i64 x237006_5, .int .u8 x206005_5, .int .i64 (-1), .int .i64 0, .int .i64 0]) ?_ 7 _ rfl; (with_reducible repeat (first | refine blk_drewN ?_ _ | refine blk_drew ?_ | refine blk_alloc ?_ _)); refine blk_put (cs := #[.int .i64 a1, .string x237003_5, .string x237004_5, .int .i64 x237005_5, .int .i64 x237006_5, .int .u8 x206005_5, .int .i64 0, .int .i64 0, .int .i64 0]) ?_ 6 _ rfl; (with_reducible repeat (first | refine blk_drewN ?_ _ | refine blk_drew ?_ | refine blk_alloc ?_ _)); refine blk_put (cs := #[.int .i64 a1, .string x237003_5, .string x237004_5, .int .i64 x237005_5, .int .i64 x237006_5, .int .u8 0, .int .i64 0, .int .i64 0, .int .i64 0]) ?_ 5 _ rfl; (with_reducible repeat (first | refine blk_drewN ?_ _ | refine blk_drew ?_ | refine blk_alloc ?_ _)); refine blk_put (cs := #[.int .i64 a1, .string x237003_5, .string x237004_5, .int .i64 x237005_5, .int .i64 0, .int .u8 0, .int .i64 0, .int .i64 0, .int .i64 0]) ?_ 4 _ rfl; (with_reducible repeat (first | refine blk_drewN ?_ _ | refine blk_drew ?_ | refine blk_alloc ?_ _)); refine blk_put (cs := #[.int .i64 a1, .string x237003_5, .string x237004_5, .int .i64 0, .int .i64 0, .int .u8 0, .int .i64 0, .int .i64 0, .int .i64 0]) ?_ 3 _ rfl; (with_reducible repeat (first | refine blk_drewN ?_ _ | refine blk_drew ?_ | refine blk_alloc ?_ _)); refine blk_put (cs := #[.int .i64 a1, .string x237003_5, .string (⟨#[]⟩ : ByteArray), .int .i64 0, .int .i64 0, .int .u8 0, .int .i64 0, .int .i64 0, .int .i64 0]) ?_ 2 _ rfl; (with_reducible repeat (first | refine blk_drewN ?_ _ | refine blk_drew ?_ | refine blk_alloc ?_ _)); refine blk_put (cs := #[.int .i64 a1, .string (⟨#[]⟩ : ByteArray), .string (⟨#[]⟩ : ByteArray), .int .i64 0, .int .i64 0, .int .u8 0, .int .i64 0, .int .i64 0, .int .i64 0]) ?_ 1 _ rfl; (with_reducible repeat (first | refine blk_drewN ?_ _ | refine blk_drew ?_ | refine blk_alloc ?_ _)); refine blk_put (cs := #[.int .i64 0, .string (⟨#[]⟩ : ByteArray), .string (⟨#[]⟩ : ByteArray), .int .i64 0, .int .i64 0, .int .u8 0, .int .i64 0, .int .i64 0, .int .i64 0]) ?_ 0 _ rfl; (with_reducible repeat (first | refine blk_drewN ?_ _ | refine blk_drew ?_ | refine blk_alloc ?_ _)); refine blk_far ?_ NB204_205.out _; (with_reducible repeat (first | refine blk_drewN ?_ _ | refine blk_drew ?_ | refine blk_alloc ?_ _)); refine blk_far ?_ NB204_205.out _; (with_reducible repeat (first | refine blk_drewN ?_ _ | refine blk_drew ?_ | refine blk_alloc ?_ _)); refine blk_far ?_ NB204_205.out _; (with_reducible repeat (first | refine blk_drewN ?_ _ | refine blk_drew ?_ | refine blk_alloc ?_ _)); refine blk_far ?_ NB204_205.out _; (with_reducible repeat (first | refine blk_drewN ?_ _ | refine blk_drew ?_ | refine blk_alloc ?_ _)); exact BK204.out) Try.underlying56 rfl (by kernel_rfl)) rfl ?_
     exact ⟨by first | rfl | (simp [errW_none, errW_some] <;> rfl) | (simp [*, errW_none, errW_some] <;> rfl), by repeat (first | (with_reducible first | exact HB.out | apply below_alloc | apply pw_below_drewN | apply below_drew1 | refine below_set ?_ GE204.out | refine below_set ?_ GE205.out | refine below_set ?_ GE215.out | refine below_set ?_ GE225.out | refine below_set ?_ GE235.out | refine below_set ?_ GE236.out) | exact HB.out)⟩

end Go.Proofs.Ytinpgejkkfpckaa.Pr
