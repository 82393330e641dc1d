-- MINIFIED by wip/tools/minify.py
-- Written by this session's program wip/tools/pr.py out of the translation (with the kit's print.py). Not trusted: Lean checks it.
import Derived.Test.YtinpgejkkfpckaaPr0
import Derived.Test.YtinpgejkkfpckaaPr2
import Derived.Test.YtinpgejkkfpckaaPr11
import Derived.Test.YtinpgejkkfpckaaPr13
namespace Go.Proofs.Ytinpgejkkfpckaa.Pr
open Go.RowKit Go.Proofs.YtinpgejkkfpckaaW.PrintWords Go.Proofs.YtinpgejkkfpckaaW.PrintLast Go.Proofs.YtinpgejkkfpckaaW.PrintMore
attribute [local go_sem] max2_int min2_int max_two min_two max_three min_three max_four min_four   -- for this text's walks alone
set_option linter.unusedVariables false
set_option linter.unusedSimpArgs false

/-! ### musterref27_beyond: function 47 -/
mutual
def musterref27_beyond.l0 : Nat → List (S36) → ByteArray → Int → Int → List Int → List Int → Int → Option (Int × Bool)
 | 0, _, _, _, _, _, _, _ => none
 | k + 1, x0, x1, x2, x3, x10, x11, x12 => if x12 < (x10.length : Int) then (if 0 ≤ x12 then ((musterref27_run.f k x0 (rd x10 x12)).bind fun bt265 => (if x1.toList = ([] : List UInt8) then (musterref27_beyond.j1 k x0 x1 x2 x3 x10 x11 x12 (decide (bt265.2.2.2.2.2.2.2.1 < 0)) bt265.1 bt265.2.1 bt265.2.2.1 bt265.2.2.2.1 bt265.2.2.2.2.1 bt265.2.2.2.2.2.1 bt265.2.2.2.2.2.2.1 bt265.2.2.2.2.2.2.2.1 bt265.2.2.2.2.2.2.2.2) else (if bt265.2.1.toList = x1.toList then (musterref27_beyond.j1 k x0 x1 x2 x3 x10 x11 x12 (decide (bt265.2.2.2.2.2.2.2.1 < 0)) bt265.1 bt265.2.1 bt265.2.2.1 bt265.2.2.2.1 bt265.2.2.2.2.1 bt265.2.2.2.2.2.1 bt265.2.2.2.2.2.2.1 bt265.2.2.2.2.2.2.2.1 bt265.2.2.2.2.2.2.2.2) else (musterref27_beyond.j1 k x0 x1 x2 x3 x10 x11 x12 true bt265.1 bt265.2.1 bt265.2.2.1 bt265.2.2.2.1 bt265.2.2.2.2.1 bt265.2.2.2.2.2.1 bt265.2.2.2.2.2.2.1 bt265.2.2.2.2.2.2.2.1 bt265.2.2.2.2.2.2.2.2)))) else (none)) else ((musterref27_Sum.f k x11).bind fun bt262 => (some (bt262.1, bt262.2)))
def musterref27_beyond.j1 : Nat → List (S36) → ByteArray → Int → Int → List Int → List Int → Int → Bool → Int → ByteArray → ByteArray → Int → Int → Int → Int → Int → Int → Option (Int × Bool)
 | 0, _, _, _, _, _, _, _, _, _, _, _, _, _, _, _, _, _ => none
 | k + 1, x0, x1, x2, x3, x10, x11, x12, x41, x275000, x275001, x275002, x275003, x275004, x275005, x275006, x275007, x275008 => if x41 = true then (musterref27_beyond.l0 k x0 x1 x2 x3 x10 x11 (wrap64 (x12 + 1))) else (if x275008 ≥ 0 then (if x11.length < 17592186044416 then (musterref27_beyond.l0 k x0 x1 x2 x3 x10 (x11 ++ [wrap64 ((mx (wrap64 ((mn x3 x275008) - (mx x2 x275007))) 0) * (wrap64 (x275003 * x275004)))]) (wrap64 (x12 + 1))) else (none)) else (if x11.length < 17592186044416 then (musterref27_beyond.l0 k x0 x1 x2 x3 x10 (x11 ++ [wrap64 ((mx (wrap64 (x3 - (mx x2 x275007))) 0) * (wrap64 (x275003 * x275004)))]) (wrap64 (x12 + 1))) else (none)))
end
def musterref27_beyond.f (k : Nat) (l0 : List (S36)) (a1 : ByteArray) (a2 : Int) (a3 : Int) : Option (Int × Bool) := (musterref27_ids.f k l0).bind fun t259 => (musterref27_beyond.l0 k l0 a1 a2 a3 t259 ([] : List Int) 0)
theorem musterref27_beyond.mono_l : ∀ k, (∀ y0 y1 y2 y3 y4 y5 y6, LeO (musterref27_beyond.l0 k y0 y1 y2 y3 y4 y5 y6) (musterref27_beyond.l0 (k + 1) y0 y1 y2 y3 y4 y5 y6)) ∧ (∀ y0 y1 y2 y3 y4 y5 y6 y7 y8 y9 y10 y11 y12 y13 y14 y15 y16, LeO (musterref27_beyond.j1 k y0 y1 y2 y3 y4 y5 y6 y7 y8 y9 y10 y11 y12 y13 y14 y15 y16) (musterref27_beyond.j1 (k + 1) y0 y1 y2 y3 y4 y5 y6 y7 y8 y9 y10 y11 y12 y13 y14 y15 y16))
 | 0 => ⟨fun _ _ _ _ _ _ _ r h => by simp [musterref27_beyond.l0] at h, fun _ _ _ _ _ _ _ _ _ _ _ _ _ _ _ _ _ r h => by simp [musterref27_beyond.j1] at h⟩
 | k + 1 => by
  obtain ⟨ih0, ih1⟩ := musterref27_beyond.mono_l k
  refine ⟨?_, ?_⟩
  ·intro y0 y1 y2 y3 y4 y5 y6
   unfold musterref27_beyond.l0
   repeat' first
   | (with_reducible exact ih0 _ _ _ _ _ _ _)
   | (with_reducible exact ih1 _ _ _ _ _ _ _ _ _ _ _ _ _ _ _ _ _)
   | (with_reducible exact musterref27_Sum.mono _ _)
   | (with_reducible exact musterref27_ids.mono _ _)
   | (with_reducible exact musterref27_run.mono _ _ _)
   | (with_reducible exact LeO.refl _)
   | (with_reducible exact LeO.none _)
   | (with_reducible refine LeO.ite ?_ ?_)
   | (with_reducible refine LeO.bind ?_ (fun _ => ?_))
   | exact ih0 _ _ _ _ _ _ _
   | exact ih1 _ _ _ _ _ _ _ _ _ _ _ _ _ _ _ _ _
   | exact musterref27_Sum.mono _ _
   | exact musterref27_ids.mono _ _
   | exact musterref27_run.mono _ _ _
   | exact LeO.none _
   | refine LeO.ite ?_ ?_
   | refine LeO.bind ?_ (fun _ => ?_)
  ·intro y0 y1 y2 y3 y4 y5 y6 y7 y8 y9 y10 y11 y12 y13 y14 y15 y16
   unfold musterref27_beyond.j1
   repeat' first
   | (with_reducible exact ih0 _ _ _ _ _ _ _)
   | (with_reducible exact ih1 _ _ _ _ _ _ _ _ _ _ _ _ _ _ _ _ _)
   | (with_reducible exact musterref27_Sum.mono _ _)
   | (with_reducible exact musterref27_ids.mono _ _)
   | (with_reducible exact musterref27_run.mono _ _ _)
   | (with_reducible exact LeO.refl _)
   | (with_reducible exact LeO.none _)
   | (with_reducible refine LeO.ite ?_ ?_)
   | (with_reducible refine LeO.bind ?_ (fun _ => ?_))
   | exact ih0 _ _ _ _ _ _ _
   | exact ih1 _ _ _ _ _ _ _ _ _ _ _ _ _ _ _ _ _
   | exact musterref27_Sum.mono _ _
   | exact musterref27_ids.mono _ _
   | exact musterref27_run.mono _ _ _
   | exact LeO.none _
   | refine LeO.ite ?_ ?_
   | refine LeO.bind ?_ (fun _ => ?_)
theorem musterref27_beyond.mono : ∀ a0 a1 a2 a3 k, LeO (musterref27_beyond.f k a0 a1 a2 a3) (musterref27_beyond.f (k + 1) a0 a1 a2 a3) := by
 intro a0 a1 a2 a3 k
 obtain ⟨ih0, ih1⟩ := musterref27_beyond.mono_l k
 unfold musterref27_beyond.f
 repeat' first
   | (with_reducible exact ih0 _ _ _ _ _ _ _)
   | (with_reducible exact ih1 _ _ _ _ _ _ _ _ _ _ _ _ _ _ _ _ _)
   | (with_reducible exact musterref27_Sum.mono _ _)
   | (with_reducible exact musterref27_ids.mono _ _)
   | (with_reducible exact musterref27_run.mono _ _ _)
   | (with_reducible exact LeO.refl _)
   | (with_reducible exact LeO.none _)
   | (with_reducible refine LeO.ite ?_ ?_)
   | (with_reducible refine LeO.bind ?_ (fun _ => ?_))
   | exact ih0 _ _ _ _ _ _ _
   | exact ih1 _ _ _ _ _ _ _ _ _ _ _ _ _ _ _ _ _
   | exact musterref27_Sum.mono _ _
   | exact musterref27_ids.mono _ _
   | exact musterref27_run.mono _ _ _
   | exact LeO.none _
   | refine LeO.ite ?_ ?_
   | refine LeO.bind ?_ (fun _ => ?_)
set_option maxHeartbeats 8000000 in
set_option maxRecDepth 100000 in
theorem musterref27_beyond.calls (k : Nat) (A0 : Option Addr) (c0 : Nat) (l0 : List (S36)) (a1 : ByteArray) (a2 : Int) (a3 : Int) (r1 : Int) (r2 : Bool) (w : World) (hr0 : Kd.C k36 w A0 l0.length l0) (hc0 : l0.length ≤ c0) (h : musterref27_beyond.f k l0 a1 a2 a3 = some (r1, r2)) :
  Calls Try.prog 47 #[.slice A0 l0.length c0, .string a1, .int .i64 a2, .int .i64 a3] w fun e w' => e = .returned (.tuple #[.int .i64 r1, .bool r2]) ∧ Below w.heap.size w w' := by
 have hu56 := Try.underlying56
 have HR0 := Aside0.mk hr0
 have HC0 := Aside0.mk hc0
 clear hr0 hc0
 have HB := Aside0.mk (Below.refl w.heap.size w)
 have H : ((musterref27_ids.f k l0).bind fun t259 => (musterref27_beyond.l0 k l0 a1 a2 a3 t259 ([] : List Int) 0)) = some (r1, r2) := h
 clear h
 replace H := Option.bind_eq_some_iff.mp H
 obtain ⟨t259, A50, H⟩ := H
 replace H : (musterref27_beyond.l0 k l0 a1 a2 a3 t259 ([] : List Int) 0) = some (r1, r2) := H
 have A5 := Aside0.mk A50
 clear A50
 have H' := Aside0.mk H
 clear H
 go_enter Try.func47, Try.ntmps47
 go_wp2_with (first | ((with_reducible refine gate_callee (f := 45) rfl ?_); refine goesL_ (some 16) rfl rfl Try.func45 (by kernel_rfl) rfl #[.slice A0 l0.length c0] rfl (by (try simp only [List.map_toArray, List.map_cons, List.map_nil]); first | done | rfl | (simp only [List.length_drop, List.length_take]; rfl)) ?_; (with_reducible refine (musterref27_ids.calls k _ _ l0 t259 _ ?side1 ?side2 A5.out).mono ?_); (case side1 => repeat (first | exact HR0.out | (with_reducible refine Kd.C_alloc ?_ _) | (with_reducible refine Kd.C_drewN ?_ _) | (with_reducible refine Kd.C_drew ?_))); (case side2 => exact HC0.out); rintro e w6 ⟨v260, rfl, ho0, hb⟩; refine ⟨_, rfl, ?_⟩; have n0_ := Aside0.mk (Kd.R_lower ho0 (below_size (by repeat (first | (with_reducible first | exact HB.out | apply below_alloc | apply pw_below_drewN | apply below_drew1) | exact HB.out)))); have n1_ := Aside0.mk (below_step (by repeat (first | (with_reducible first | exact HB.out | apply below_alloc | apply pw_below_drewN | apply below_drew1) | exact HB.out)) hb); clear HB; have HO261 := n0_; have HB := n1_; clear n0_ n1_; (try clear hb); (try clear hb2); (try clear hk); (try clear hi); (try clear ho0)))
 go_loopg [11, 12] k (fun kq v11 v12 w' => ∃ (x11_1 : List Int) (x12_1 : Int), v12 = .int .i64 x12_1 ∧ Aside0 (musterref27_beyond.l0 kq l0 a1 a2 a3 t259 x11_1 x12_1 = some (r1, r2)) ∧ Aside0 (kq ≤ k) ∧ Aside0 (Kd.R (Kd.int .i64) 3 w' w.heap.size (fun _ => True) v260 t259) ∧ Aside0 (Kd.R (Kd.int .i64) 2 w' w.heap.size (fun _ => True) v11 x11_1) ∧ Aside0 (Below w.heap.size w w'))
 case atStart => exact ⟨(([] : List Int)), (0), (by first | rfl | (simp; done) | (simp [*]; done)), H', ⟨Nat.le_refl _⟩, ⟨by (with_reducible repeat (first | apply Kd.R_alloc | apply Kd.R_drewN | apply Kd.R_drew)); exact HO261.out⟩, ⟨by first | exact Kd.R_nil _ _ _ _ _ | exact Kd.N_nil _ _ _ _ _ | exact Kd.V_nil _ _ _ _ _ | exact Kd.Q_nil _ _ _ _ _ | exact Kd.S_nil _ _ _ _ _⟩, ⟨by repeat (first | (with_reducible first | exact HB.out | apply below_alloc | apply pw_below_drewN | apply below_drew1) | exact HB.out)⟩⟩
 case round =>
  clear H'
  try clear p2
  try clear c4
  obtain ⟨x11_1, x12_1, rfl, HA, HK1, HO_10, HO_11, HB⟩ := hrel
  cases gk with
  | zero => exact absurd HA.out (by simp [musterref27_beyond.l0])
  | succ k1 =>
   have H := HA.out
   clear HA
   simp only [musterref27_beyond.l0] at H
   by_cases c7 : x12_1 < (t259.length : Int)
   ·rw [if_pos c7] at H
    have c7b0 : decide (x12_1 < (t259.length : Int)) = true := decide_eq_true c7
    clear c7
    by_cases c8 : 0 ≤ x12_1
    ·rw [if_pos c8] at H
     have c8b0 : decide (0 ≤ x12_1) = true := decide_eq_true c8
     clear c8
     replace H := Option.bind_eq_some_iff.mp H
     obtain ⟨⟨t265, t266, t267, t268, t269, t270, t271, t272, t273⟩, A90, H⟩ := H
     replace H : (if a1.toList = ([] : List UInt8) then (musterref27_beyond.j1 k1 l0 a1 a2 a3 t259 x11_1 x12_1 (decide (t272 < 0)) t265 t266 t267 t268 t269 t270 t271 t272 t273) else (if t266.toList = a1.toList then (musterref27_beyond.j1 k1 l0 a1 a2 a3 t259 x11_1 x12_1 (decide (t272 < 0)) t265 t266 t267 t268 t269 t270 t271 t272 t273) else (musterref27_beyond.j1 k1 l0 a1 a2 a3 t259 x11_1 x12_1 true t265 t266 t267 t268 t269 t270 t271 t272 t273))) = some (r1, r2) := H
     have A9 := Aside0.mk A90
     clear A90
     have HC10 := Aside0.mk H
     clear H
     obtain ⟨Ao11, co11, eo11⟩ := Kd.R_slice HO_10.out
     subst eo11
     have p264 : 0 ≤ (x12_1 : Int) := of_decide_eq_true (by first | (with_reducible assumption) | assumption)
     have q264 : x12_1 < (t259.length : Int) := of_decide_eq_true (by first | (with_reducible assumption) | assumption)
     obtain ⟨ad264, e264, hx264_0⟩ := Kd.at_int (Kd.R_reads' HO_10.out).2.2 x12_1 p264 q264
     cases e264
     replace p264 := eq_true p264
     replace q264 := eq_true q264
     go_upto_region 7 with (first | ((with_reducible refine gate_callee (f := 46) rfl ?_); refine goesL_ (some 28) rfl rfl Try.func46 (by kernel_rfl) rfl #[.slice A0 l0.length c0, .int .i64 (rd t259 x12_1)] rfl (by (try simp only [List.map_toArray, List.map_cons, List.map_nil]); first | done | rfl | (simp only [List.length_drop, List.length_take]; rfl)) ?_; (with_reducible refine (musterref27_run.calls k1 _ _ l0 (rd t259 x12_1) t265 t266 t267 t268 t269 t270 t271 t272 t273 _ ?side1 ?side2 A9.out).mono ?_); (case side1 => repeat (first | exact (Kd.C_below HR0.out HB.out) | (with_reducible refine Kd.C_alloc ?_ _) | (with_reducible refine Kd.C_drewN ?_ _) | (with_reducible refine Kd.C_drew ?_))); (case side2 => exact HC0.out); rintro e w12 ⟨rfl, hb⟩; refine ⟨_, rfl, ?_⟩; have n0_ := Aside0.mk (Kd.R_below (by (with_reducible repeat (first | apply Kd.R_alloc | apply Kd.R_drewN | apply Kd.R_drew)); exact HO_10.out) hb); have n1_ := Aside0.mk (Kd.R_below (by (with_reducible repeat (first | apply Kd.R_alloc | apply Kd.R_drewN | apply Kd.R_drew)); exact HO_11.out) hb); have n2_ := Aside0.mk (below_step (by repeat (first | (with_reducible first | exact HB.out | apply below_alloc | apply pw_below_drewN | apply below_drew1) | exact HB.out)) hb); clear HO_10; clear HO_11; clear HB; have HO_10 := n0_; have HO_11 := n1_; have HB := n2_; clear n0_ n1_ n2_; (try clear hb); (try clear hb2); (try clear hk); (try clear hi)) | ((with_reducible refine gate_dst (N := 13) rfl ?_); refine box_event ?hg (N := 13) ?hd (cs := #[.int .i64 0, .string (⟨#[]⟩ : ByteArray), .string (⟨#[]⟩ : ByteArray), .int .i64 0, .int .i64 0, .int .u8 0, .int .i64 0, .int .i64 0, .int .i64 0]) (t := 56) ?hr ?_; (case hd => rfl); (case hg => rfl); (case hr => first | (go_simp; done) | (go_simp; rfl)); intro gb274 hg w13 hbox hb; have n0_ := Aside0.mk (Kd.R_below (by (with_reducible repeat (first | apply Kd.R_alloc | apply Kd.R_drewN | apply Kd.R_drew)); exact HO_10.out) hb); have n1_ := Aside0.mk (Kd.R_below (by (with_reducible repeat (first | apply Kd.R_alloc | apply Kd.R_drewN | apply Kd.R_drew)); exact HO_11.out) hb); have n2_ := Aside0.mk (below_step (by repeat (first | (with_reducible first | exact HB.out | apply below_alloc | apply pw_below_drewN | apply below_drew1) | exact HB.out)) hb); have n3_ := Aside0.mk (hbox); have n4_ := Aside0.mk ((by rw [hg]; exact (below_size (by repeat (first | (with_reducible first | exact HB.out | apply below_alloc | apply pw_below_drewN | apply below_drew1) | exact HB.out))) : w.heap.size ≤ gb274)); have n5_ := Aside0.mk ((by rw [hg]; exact (below_size (by repeat (first | (with_reducible first | exact HB.out | apply below_alloc | apply pw_below_drewN | apply below_drew1) | exact HB.out))) : w.heap.size ≤ gb274)); clear HO_10; clear HO_11; clear HB; have HO_10 := n0_; have HO_11 := n1_; have HB := n2_; have BK274 := n3_; have GW274 := n4_; have GE274 := n5_; clear n0_ n1_ n2_ n3_ n4_ n5_; clear hb hbox hg; have hcz14_0 : w13.cell? ⟨gb274, 0, none⟩ = some (.int .i64 0) := (blk_cell BK274.out 0).trans rfl; have hcz14_1 : w13.cell? ⟨gb274, 1, none⟩ = some (.string (⟨#[]⟩ : ByteArray)) := (blk_cell BK274.out 1).trans rfl; have hcz14_2 : w13.cell? ⟨gb274, 2, none⟩ = some (.string (⟨#[]⟩ : ByteArray)) := (blk_cell BK274.out 2).trans rfl; have hcz14_3 : w13.cell? ⟨gb274, 3, none⟩ = some (.int .i64 0) := (blk_cell BK274.out 3).trans rfl; have hcz14_4 : w13.cell? ⟨gb274, 4, none⟩ = some (.int .i64 0) := (blk_cell BK274.out 4).trans rfl; have hcz14_5 : w13.cell? ⟨gb274, 5, none⟩ = some (.int .u8 0) := (blk_cell BK274.out 5).trans rfl; have hcz14_6 : w13.cell? ⟨gb274, 6, none⟩ = some (.int .i64 0) := (blk_cell BK274.out 6).trans rfl; have hcz14_7 : w13.cell? ⟨gb274, 7, none⟩ = some (.int .i64 0) := (blk_cell BK274.out 7).trans rfl; have hcz14_8 : w13.cell? ⟨gb274, 8, none⟩ = some (.int .i64 0) := (blk_cell BK274.out 8).trans rfl; have hfz14_0 := blk_frozen BK274.out 0; have hfz14_1 := blk_frozen BK274.out 1; have hfz14_2 := blk_frozen BK274.out 2; have hfz14_3 := blk_frozen BK274.out 3; have hfz14_4 := blk_frozen BK274.out 4; have hfz14_5 := blk_frozen BK274.out 5; have hfz14_6 := blk_frozen BK274.out 6; have hfz14_7 := blk_frozen BK274.out 7; have hfz14_8 := blk_frozen BK274.out 8))
     (try simp only [Act.put, List.setIfInBounds_toArray, List.set_cons_zero, List.set_cons_succ])
     go_cut [41] (fun v41 wc => ∃ (kq : Nat) (x41_9 : Bool), v41 = .bool x41_9 ∧ Aside0 (musterref27_beyond.j1 kq l0 a1 a2 a3 t259 x11_1 x12_1 x41_9 t265 t266 t267 t268 t269 t270 t271 t272 t273 = some (r1, r2)) ∧ Aside0 (kq ≤ k1) ∧ Aside0 (Kd.R (Kd.int .i64) 3 wc w.heap.size (fun _ => True) (.slice (some ad264) t259.length co11) t259) ∧ Aside0 (Kd.R (Kd.int .i64) 2 wc w.heap.size (fun _ => True) u11 x11_1) ∧ Aside0 (wc.heap[gb274]? = some (.cells #[.int .i64 t265, .string t266, .string t267, .int .i64 t268, .int .i64 t269, .int .u8 t270, .int .i64 t271, .int .i64 t272, .int .i64 t273] 56 (0, 0))) ∧ Aside0 (Below w.heap.size w wc))
     case first =>
      have H := HC10.out
      clear HC10
      by_cases c15 : a1.toList = ([] : List UInt8)
      ·rw [if_pos c15] at H
       have c15b0 : (a1.toList == ([] : List UInt8)) = true := beq_iff_eq.mpr c15
       have c15b1 : (a1.toList != ([] : List UInt8)) = false := bne_eq_false_iff_eq.mpr c15
       clear c15
       (first | rw [c15b0] | (simp only [i64_w, i32_w]; rw [c15b0]) | skip)
       have H' := Aside0.mk H
       clear H
       have hcz16_0 : w13.cell? ⟨gb274, 0, none⟩ = some (.int .i64 0) := (blk_cell BK274.out 0).trans rfl
       have hcz16_1 : w13.cell? ⟨gb274, 1, none⟩ = some (.string (⟨#[]⟩ : ByteArray)) := (blk_cell BK274.out 1).trans rfl
       have hcz16_2 : w13.cell? ⟨gb274, 2, none⟩ = some (.string (⟨#[]⟩ : ByteArray)) := (blk_cell BK274.out 2).trans rfl
       have hcz16_3 : w13.cell? ⟨gb274, 3, none⟩ = some (.int .i64 0) := (blk_cell BK274.out 3).trans rfl
       have hcz16_4 : w13.cell? ⟨gb274, 4, none⟩ = some (.int .i64 0) := (blk_cell BK274.out 4).trans rfl
       have hcz16_5 : w13.cell? ⟨gb274, 5, none⟩ = some (.int .u8 0) := (blk_cell BK274.out 5).trans rfl
       have hcz16_6 : w13.cell? ⟨gb274, 6, none⟩ = some (.int .i64 0) := (blk_cell BK274.out 6).trans rfl
       have hcz16_7 : w13.cell? ⟨gb274, 7, none⟩ = some (.int .i64 0) := (blk_cell BK274.out 7).trans rfl
       have hcz16_8 : w13.cell? ⟨gb274, 8, none⟩ = some (.int .i64 0) := (blk_cell BK274.out 8).trans rfl
       have hfz16_0 := blk_frozen BK274.out 0
       have hfz16_1 := blk_frozen BK274.out 1
       have hfz16_2 := blk_frozen BK274.out 2
       have hfz16_3 := blk_frozen BK274.out 3
       have hfz16_4 := blk_frozen BK274.out 4
       have hfz16_5 := blk_frozen BK274.out 5
       have hfz16_6 := blk_frozen BK274.out 6
       have hfz16_7 := blk_frozen BK274.out 7
       have hfz16_8 := blk_frozen BK274.out 8
       go_wp2
       go_meet
       case rel => exact ⟨_, (decide (t272 < 0)), (by first | rfl | (simp; done) | (simp [*]; done)), H', ⟨by have := HK1.out; first | omega | exact Nat.le_refl _⟩, ⟨by (with_reducible repeat (first | apply Kd.R_alloc | apply Kd.R_drewN | apply Kd.R_drew)); exact Kd.R_mono (Kd.R_far (p := ⟨gb274, 8, none⟩) (Kd.R_far (p := ⟨gb274, 7, none⟩) (Kd.R_far (p := ⟨gb274, 6, none⟩) (Kd.R_far (p := ⟨gb274, 5, none⟩) (Kd.R_far (p := ⟨gb274, 4, none⟩) (Kd.R_far (p := ⟨gb274, 3, none⟩) (Kd.R_far (p := ⟨gb274, 2, none⟩) (Kd.R_far (p := ⟨gb274, 1, none⟩) (Kd.R_far (p := ⟨gb274, 0, none⟩) (Kd.R_types HO_10.out BK274.out (by decide)) (fun _ hk => hk.2) (.int .i64 t265)) (fun _ hk => hk.2) (.string t266)) (fun _ hk => hk.2) (.string t267)) (fun _ hk => hk.2) (.int .i64 t268)) (fun _ hk => hk.2) (.int .i64 t269)) (fun _ hk => hk.2) (.int .u8 t270)) (fun _ hk => hk.2) (.int .i64 t271)) (fun _ hk => hk.2) (.int .i64 t272)) (fun _ hk => hk.2) (.int .i64 t273)) (fun _ hk => trivial)⟩, ⟨by (with_reducible repeat (first | apply Kd.R_alloc | apply Kd.R_drewN | apply Kd.R_drew)); exact Kd.R_mono (Kd.R_far (p := ⟨gb274, 8, none⟩) (Kd.R_far (p := ⟨gb274, 7, none⟩) (Kd.R_far (p := ⟨gb274, 6, none⟩) (Kd.R_far (p := ⟨gb274, 5, none⟩) (Kd.R_far (p := ⟨gb274, 4, none⟩) (Kd.R_far (p := ⟨gb274, 3, none⟩) (Kd.R_far (p := ⟨gb274, 2, none⟩) (Kd.R_far (p := ⟨gb274, 1, none⟩) (Kd.R_far (p := ⟨gb274, 0, none⟩) (Kd.R_types HO_11.out BK274.out (by decide)) (fun _ hk => hk.2) (.int .i64 t265)) (fun _ hk => hk.2) (.string t266)) (fun _ hk => hk.2) (.string t267)) (fun _ hk => hk.2) (.int .i64 t268)) (fun _ hk => hk.2) (.int .i64 t269)) (fun _ hk => hk.2) (.int .u8 t270)) (fun _ hk => hk.2) (.int .i64 t271)) (fun _ hk => hk.2) (.int .i64 t272)) (fun _ hk => hk.2) (.int .i64 t273)) (fun _ hk => trivial)⟩, ⟨by (with_reducible repeat (first | refine blk_drewN ?_ _ | refine blk_drew ?_ | refine blk_alloc ?_ _)); refine blk_put (cs := #[.int .i64 t265, .string t266, .string t267, .int .i64 t268, .int .i64 t269, .int .u8 t270, .int .i64 t271, .int .i64 t272, .int .i64 0]) ?_ 8 _ rfl; (with_reducible repeat (first | refine blk_drewN ?_ _ | refine blk_drew ?_ | refine blk_alloc ?_ _)); refine blk_put (cs := #[.int .i64 t265, .string t266, .string t267, .int .i64 t268, .int .i64 t269, .int .u8 t270, .int .i64 t271, .int .i64 0, .int .i64 0]) ?_ 7 _ rfl; (with_reducible repeat (first | refine blk_drewN ?_ _ | refine blk_drew ?_ | refine blk_alloc ?_ _)); refine blk_put (cs := #[.int .i64 t265, .string t266, .string t267, .int .i64 t268, .int .i64 t269, .int .u8 t270, .int .i64 0, .int .i64 0, .int .i64 0]) ?_ 6 _ rfl; (with_reducible repeat (first | refine blk_drewN ?_ _ | refine blk_drew ?_ | refine blk_alloc ?_ _)); refine blk_put (cs := #[.int .i64 t265, .string t266, .string t267, .int .i64 t268, .int .i64 t269, .int .u8 0, .int .i64 0, .int .i64 0, .int .i64 0]) ?_ 5 _ rfl; (with_reducible repeat (first | refine blk_drewN ?_ _ | refine blk_drew ?_ | refine blk_alloc ?_ _)); refine blk_put (cs := #[.int .i64 t265, .string t266, .string t267, .int .i64 t268, .int .i64 0, .int .u8 0, .int .i64 0, .int .i64 0, .int .i64 0]) ?_ 4 _ rfl; (with_reducible repeat (first | refine blk_drewN ?_ _ | refine blk_drew ?_ | refine blk_alloc ?_ _)); refine blk_put (cs := #[.int .i64 t265, .string t266, .string t267, .int .i64 0, .int .i64 0, .int .u8 0, .int .i64 0, .int .i64 0, .int .i64 0]) ?_ 3 _ rfl; (with_reducible repeat (first | refine blk_drewN ?_ _ | refine blk_drew ?_ | refine blk_alloc ?_ _)); refine blk_put (cs := #[.int .i64 t265, .string t266, .string (⟨#[]⟩ : ByteArray), .int .i64 0, .int .i64 0, .int .u8 0, .int .i64 0, .int .i64 0, .int .i64 0]) ?_ 2 _ rfl; (with_reducible repeat (first | refine blk_drewN ?_ _ | refine blk_drew ?_ | refine blk_alloc ?_ _)); refine blk_put (cs := #[.int .i64 t265, .string (⟨#[]⟩ : ByteArray), .string (⟨#[]⟩ : ByteArray), .int .i64 0, .int .i64 0, .int .u8 0, .int .i64 0, .int .i64 0, .int .i64 0]) ?_ 1 _ rfl; (with_reducible repeat (first | refine blk_drewN ?_ _ | refine blk_drew ?_ | refine blk_alloc ?_ _)); refine blk_put (cs := #[.int .i64 0, .string (⟨#[]⟩ : ByteArray), .string (⟨#[]⟩ : ByteArray), .int .i64 0, .int .i64 0, .int .u8 0, .int .i64 0, .int .i64 0, .int .i64 0]) ?_ 0 _ rfl; (with_reducible repeat (first | refine blk_drewN ?_ _ | refine blk_drew ?_ | refine blk_alloc ?_ _)); exact BK274.out⟩, ⟨by repeat (first | (with_reducible first | exact HB.out | apply below_alloc | apply pw_below_drewN | apply below_drew1 | refine below_set ?_ GE274.out) | exact HB.out)⟩⟩
      ·rw [if_neg c15] at H
       have c15b0 : (a1.toList == ([] : List UInt8)) = false := beq_eq_false_iff_ne.mpr c15
       have c15b1 : (a1.toList != ([] : List UInt8)) = true := bne_iff_ne.mpr c15
       (first | rw [c15b0] | (simp only [i64_w, i32_w]; rw [c15b0]) | skip)
       by_cases c17 : t266.toList = a1.toList
       ·rw [if_pos c17] at H
        have c17b0 : (t266.toList == a1.toList) = true := beq_iff_eq.mpr c17
        have c17b1 : (t266.toList != a1.toList) = false := bne_eq_false_iff_eq.mpr c17
        clear c17
        have H' := Aside0.mk H
        clear H
        have hcz18_0 : w13.cell? ⟨gb274, 0, none⟩ = some (.int .i64 0) := (blk_cell BK274.out 0).trans rfl
        have hcz18_1 : w13.cell? ⟨gb274, 1, none⟩ = some (.string (⟨#[]⟩ : ByteArray)) := (blk_cell BK274.out 1).trans rfl
        have hcz18_2 : w13.cell? ⟨gb274, 2, none⟩ = some (.string (⟨#[]⟩ : ByteArray)) := (blk_cell BK274.out 2).trans rfl
        have hcz18_3 : w13.cell? ⟨gb274, 3, none⟩ = some (.int .i64 0) := (blk_cell BK274.out 3).trans rfl
        have hcz18_4 : w13.cell? ⟨gb274, 4, none⟩ = some (.int .i64 0) := (blk_cell BK274.out 4).trans rfl
        have hcz18_5 : w13.cell? ⟨gb274, 5, none⟩ = some (.int .u8 0) := (blk_cell BK274.out 5).trans rfl
        have hcz18_6 : w13.cell? ⟨gb274, 6, none⟩ = some (.int .i64 0) := (blk_cell BK274.out 6).trans rfl
        have hcz18_7 : w13.cell? ⟨gb274, 7, none⟩ = some (.int .i64 0) := (blk_cell BK274.out 7).trans rfl
        have hcz18_8 : w13.cell? ⟨gb274, 8, none⟩ = some (.int .i64 0) := (blk_cell BK274.out 8).trans rfl
        have hfz18_0 := blk_frozen BK274.out 0
        have hfz18_1 := blk_frozen BK274.out 1
        have hfz18_2 := blk_frozen BK274.out 2
        have hfz18_3 := blk_frozen BK274.out 3
        have hfz18_4 := blk_frozen BK274.out 4
        have hfz18_5 := blk_frozen BK274.out 5
        have hfz18_6 := blk_frozen BK274.out 6
        have hfz18_7 := blk_frozen BK274.out 7
        have hfz18_8 := blk_frozen BK274.out 8
        go_wp2
        go_meet
        case rel => exact ⟨_, (decide (t272 < 0)), (by first | rfl | (simp; done) | (simp [*]; done)), H', ⟨by have := HK1.out; first | omega | exact Nat.le_refl _⟩, ⟨by (with_reducible repeat (first | apply Kd.R_alloc | apply Kd.R_drewN | apply Kd.R_drew)); exact Kd.R_mono (Kd.R_far (p := ⟨gb274, 8, none⟩) (Kd.R_far (p := ⟨gb274, 7, none⟩) (Kd.R_far (p := ⟨gb274, 6, none⟩) (Kd.R_far (p := ⟨gb274, 5, none⟩) (Kd.R_far (p := ⟨gb274, 4, none⟩) (Kd.R_far (p := ⟨gb274, 3, none⟩) (Kd.R_far (p := ⟨gb274, 2, none⟩) (Kd.R_far (p := ⟨gb274, 1, none⟩) (Kd.R_far (p := ⟨gb274, 0, none⟩) (Kd.R_types HO_10.out BK274.out (by decide)) (fun _ hk => hk.2) (.int .i64 t265)) (fun _ hk => hk.2) (.string t266)) (fun _ hk => hk.2) (.string t267)) (fun _ hk => hk.2) (.int .i64 t268)) (fun _ hk => hk.2) (.int .i64 t269)) (fun _ hk => hk.2) (.int .u8 t270)) (fun _ hk => hk.2) (.int .i64 t271)) (fun _ hk => hk.2) (.int .i64 t272)) (fun _ hk => hk.2) (.int .i64 t273)) (fun _ hk => trivial)⟩, ⟨by (with_reducible repeat (first | apply Kd.R_alloc | apply Kd.R_drewN | apply Kd.R_drew)); exact Kd.R_mono (Kd.R_far (p := ⟨gb274, 8, none⟩) (Kd.R_far (p := ⟨gb274, 7, none⟩) (Kd.R_far (p := ⟨gb274, 6, none⟩) (Kd.R_far (p := ⟨gb274, 5, none⟩) (Kd.R_far (p := ⟨gb274, 4, none⟩) (Kd.R_far (p := ⟨gb274, 3, none⟩) (Kd.R_far (p := ⟨gb274, 2, none⟩) (Kd.R_far (p := ⟨gb274, 1, none⟩) (Kd.R_far (p := ⟨gb274, 0, none⟩) (Kd.R_types HO_11.out BK274.out (by decide)) (fun _ hk => hk.2) (.int .i64 t265)) (fun _ hk => hk.2) (.string t266)) (fun _ hk => hk.2) (.string t267)) (fun _ hk => hk.2) (.int .i64 t268)) (fun _ hk => hk.2) (.int .i64 t269)) (fun _ hk => hk.2) (.int .u8 t270)) (fun _ hk => hk.2) (.int .i64 t271)) (fun _ hk => hk.2) (.int .i64 t272)) (fun _ hk => hk.2) (.int .i64 t273)) (fun _ hk => trivial)⟩, ⟨by (with_reducible repeat (first | refine blk_drewN ?_ _ | refine blk_drew ?_ | refine blk_alloc ?_ _)); refine blk_put (cs := #[.int .i64 t265, .string t266, .string t267, .int .i64 t268, .int .i64 t269, .int .u8 t270, .int .i64 t271, .int .i64 t272, .int .i64 0]) ?_ 8 _ rfl; (with_reducible repeat (first | refine blk_drewN ?_ _ | refine blk_drew ?_ | refine blk_alloc ?_ _)); refine blk_put (cs := #[.int .i64 t265, .string t266, .string t267, .int .i64 t268, .int .i64 t269, .int .u8 t270, .int .i64 t271, .int .i64 0, .int .i64 0]) ?_ 7 _ rfl; (with_reducible repeat (first | refine blk_drewN ?_ _ | refine blk_drew ?_ | refine blk_alloc ?_ _)); refine blk_put (cs := #[.int .i64 t265, .string t266, .string t267, .int .i64 t268, .int .i64 t269, .int .u8 t270, .int .i64 0, .int .i64 0, .int .i64 0]) ?_ 6 _ rfl; (with_reducible repeat (first | refine blk_drewN ?_ _ | refine blk_drew ?_ | refine blk_alloc ?_ _)); refine blk_put (cs := #[.int .i64 t265, .string t266, .string t267, .int .i64 t268, .int .i64 t269, .int .u8 0, .int .i64 0, .int .i64 0, .int .i64 0]) ?_ 5 _ rfl; (with_reducible repeat (first | refine blk_drewN ?_ _ | refine blk_drew ?_ | refine blk_alloc ?_ _)); refine blk_put (cs := #[.int .i64 t265, .string t266, .string t267, .int .i64 t268, .int .i64 0, .int .u8 0, .int .i64 0, .int .i64 0, .int .i64 0]) ?_ 4 _ rfl; (with_reducible repeat (first | refine blk_drewN ?_ _ | refine blk_drew ?_ | refine blk_alloc ?_ _)); refine blk_put (cs := #[.int .i64 t265, .string t266, .string t267, .int .i64 0, .int .i64 0, .int .u8 0, .int .i64 0, .int .i64 0, .int .i64 0]) ?_ 3 _ rfl; (with_reducible repeat (first | refine blk_drewN ?_ _ | refine blk_drew ?_ | refine blk_alloc ?_ _)); refine blk_put (cs := #[.int .i64 t265, .string t266, .string (⟨#[]⟩ : ByteArray), .int .i64 0, .int .i64 0, .int .u8 0, .int .i64 0, .int .i64 0, .int .i64 0]) ?_ 2 _ rfl; (with_reducible repeat (first | refine blk_drewN ?_ _ | refine blk_drew ?_ | refine blk_alloc ?_ _)); refine blk_put (cs := #[.int .i64 t265, .string (⟨#[]⟩ : ByteArray), .string (⟨#[]⟩ : ByteArray), .int .i64 0, .int .i64 0, .int .u8 0, .int .i64 0, .int .i64 0, .int .i64 0]) ?_ 1 _ rfl; (with_reducible repeat (first | refine blk_drewN ?_ _ | refine blk_drew ?_ | refine blk_alloc ?_ _)); refine blk_put (cs := #[.int .i64 0, .string (⟨#[]⟩ : ByteArray), .string (⟨#[]⟩ : ByteArray), .int .i64 0, .int .i64 0, .int .u8 0, .int .i64 0, .int .i64 0, .int .i64 0]) ?_ 0 _ rfl; (with_reducible repeat (first | refine blk_drewN ?_ _ | refine blk_drew ?_ | refine blk_alloc ?_ _)); exact BK274.out⟩, ⟨by repeat (first | (with_reducible first | exact HB.out | apply below_alloc | apply pw_below_drewN | apply below_drew1 | refine below_set ?_ GE274.out) | exact HB.out)⟩⟩
       ·rw [if_neg c17] at H
        have c17b0 : (t266.toList == a1.toList) = false := beq_eq_false_iff_ne.mpr c17
        have c17b1 : (t266.toList != a1.toList) = true := bne_iff_ne.mpr c17
        have H' := Aside0.mk H
        clear H
        have hcz19_0 : w13.cell? ⟨gb274, 0, none⟩ = some (.int .i64 0) := (blk_cell BK274.out 0).trans rfl
        have hcz19_1 : w13.cell? ⟨gb274, 1, none⟩ = some (.string (⟨#[]⟩ : ByteArray)) := (blk_cell BK274.out 1).trans rfl
        have hcz19_2 : w13.cell? ⟨gb274, 2, none⟩ = some (.string (⟨#[]⟩ : ByteArray)) := (blk_cell BK274.out 2).trans rfl
        have hcz19_3 : w13.cell? ⟨gb274, 3, none⟩ = some (.int .i64 0) := (blk_cell BK274.out 3).trans rfl
        have hcz19_4 : w13.cell? ⟨gb274, 4, none⟩ = some (.int .i64 0) := (blk_cell BK274.out 4).trans rfl
        have hcz19_5 : w13.cell? ⟨gb274, 5, none⟩ = some (.int .u8 0) := (blk_cell BK274.out 5).trans rfl
        have hcz19_6 : w13.cell? ⟨gb274, 6, none⟩ = some (.int .i64 0) := (blk_cell BK274.out 6).trans rfl
        have hcz19_7 : w13.cell? ⟨gb274, 7, none⟩ = some (.int .i64 0) := (blk_cell BK274.out 7).trans rfl
        have hcz19_8 : w13.cell? ⟨gb274, 8, none⟩ = some (.int .i64 0) := (blk_cell BK274.out 8).trans rfl
        have hfz19_0 := blk_frozen BK274.out 0
        have hfz19_1 := blk_frozen BK274.out 1
        have hfz19_2 := blk_frozen BK274.out 2
        have hfz19_3 := blk_frozen BK274.out 3
        have hfz19_4 := blk_frozen BK274.out 4
        have hfz19_5 := blk_frozen BK274.out 5
        have hfz19_6 := blk_frozen BK274.out 6
        have hfz19_7 := blk_frozen BK274.out 7
        have hfz19_8 := blk_frozen BK274.out 8
        go_wp2
        go_meet
        case rel => exact ⟨_, (true), (by first | rfl | (simp; done) | (simp [*]; done)), H', ⟨by have := HK1.out; first | omega | exact Nat.le_refl _⟩, ⟨by (with_reducible repeat (first | apply Kd.R_alloc | apply Kd.R_drewN | apply Kd.R_drew)); exact Kd.R_mono (Kd.R_far (p := ⟨gb274, 8, none⟩) (Kd.R_far (p := ⟨gb274, 7, none⟩) (Kd.R_far (p := ⟨gb274, 6, none⟩) (Kd.R_far (p := ⟨gb274, 5, none⟩) (Kd.R_far (p := ⟨gb274, 4, none⟩) (Kd.R_far (p := ⟨gb274, 3, none⟩) (Kd.R_far (p := ⟨gb274, 2, none⟩) (Kd.R_far (p := ⟨gb274, 1, none⟩) (Kd.R_far (p := ⟨gb274, 0, none⟩) (Kd.R_types HO_10.out BK274.out (by decide)) (fun _ hk => hk.2) (.int .i64 t265)) (fun _ hk => hk.2) (.string t266)) (fun _ hk => hk.2) (.string t267)) (fun _ hk => hk.2) (.int .i64 t268)) (fun _ hk => hk.2) (.int .i64 t269)) (fun _ hk => hk.2) (.int .u8 t270)) (fun _ hk => hk.2) (.int .i64 t271)) (fun _ hk => hk.2) (.int .i64 t272)) (fun _ hk => hk.2) (.int .i64 t273)) (fun _ hk => trivial)⟩, ⟨by (with_reducible repeat (first | apply Kd.R_alloc | apply Kd.R_drewN | apply Kd.R_drew)); exact Kd.R_mono (Kd.R_far (p := ⟨gb274, 8, none⟩) (Kd.R_far (p := ⟨gb274, 7, none⟩) (Kd.R_far (p := ⟨gb274, 6, none⟩) (Kd.R_far (p := ⟨gb274, 5, none⟩) (Kd.R_far (p := ⟨gb274, 4, none⟩) (Kd.R_far (p := ⟨gb274, 3, none⟩) (Kd.R_far (p := ⟨gb274, 2, none⟩) (Kd.R_far (p := ⟨gb274, 1, none⟩) (Kd.R_far (p := ⟨gb274, 0, none⟩) (Kd.R_types HO_11.out BK274.out (by decide)) (fun _ hk => hk.2) (.int .i64 t265)) (fun _ hk => hk.2) (.string t266)) (fun _ hk => hk.2) (.string t267)) (fun _ hk => hk.2) (.int .i64 t268)) (fun _ hk => hk.2) (.int .i64 t269)) (fun _ hk => hk.2) (.int .u8 t270)) (fun _ hk => hk.2) (.int .i64 t271)) (fun _ hk => hk.2) (.int .i64 t272)) (fun _ hk => hk.2) (.int .i64 t273)) (fun _ hk => trivial)⟩, ⟨by (with_reducible repeat (first | refine blk_drewN ?_ _ | refine blk_drew ?_ | refine blk_alloc ?_ _)); refine blk_put (cs := #[.int .i64 t265, .string t266, .string t267, .int .i64 t268, .int .i64 t269, .int .u8 t270, .int .i64 t271, .int .i64 t272, .int .i64 0]) ?_ 8 _ rfl; (with_reducible repeat (first | refine blk_drewN ?_ _ | refine blk_drew ?_ | refine blk_alloc ?_ _)); refine blk_put (cs := #[.int .i64 t265, .string t266, .string t267, .int .i64 t268, .int .i64 t269, .int .u8 t270, .int .i64 t271, .int .i64 0, .int .i64 0]) ?_ 7 _ rfl; (with_reducible repeat (first | refine blk_drewN ?_ _ | refine blk_drew ?_ | refine blk_alloc ?_ _)); refine blk_put (cs := #[.int .i64 t265, .string t266, .string t267, .int .i64 t268, .int .i64 t269, .int .u8 t270, .int .i64 0, .int .i64 0, .int .i64 0]) ?_ 6 _ rfl; (with_reducible repeat (first | refine blk_drewN ?_ _ | refine blk_drew ?_ | refine blk_alloc ?_ _)); refine blk_put (cs := #[.int .i64 t265, .string t266, .string t267, .int .i64 t268, .int .i64 t269, .int .u8 0, .int .i64 0, .int .i64 0, .int .i64 0]) ?_ 5 _ rfl; (with_reducible repeat (first | refine blk_drewN ?_ _ | refine blk_drew ?_ | refine blk_alloc ?_ _)); refine blk_put (cs := #[.int .i64 t265, .string t266, .string t267, .int .i64 t268, .int .i64 0, .int .u8 0, .int .i64 0, .int .i64 0, .int .i64 0]) ?_ 4 _ rfl; (with_reducible repeat (first | refine blk_drewN ?_ _ | refine blk_drew ?_ | refine blk_alloc ?_ _)); refine blk_put (cs := #[.int .i64 t265, .string t266, .string t267, .int .i64 0, .int .i64 0, .int .u8 0, .int .i64 0, .int .i64 0, .int .i64 0]) ?_ 3 _ rfl; (with_reducible repeat (first | refine blk_drewN ?_ _ | refine blk_drew ?_ | refine blk_alloc ?_ _)); refine blk_put (cs := #[.int .i64 t265, .string t266, .string (⟨#[]⟩ : ByteArray), .int .i64 0, .int .i64 0, .int .u8 0, .int .i64 0, .int .i64 0, .int .i64 0]) ?_ 2 _ rfl; (with_reducible repeat (first | refine blk_drewN ?_ _ | refine blk_drew ?_ | refine blk_alloc ?_ _)); refine blk_put (cs := #[.int .i64 t265, .string (⟨#[]⟩ : ByteArray), .string (⟨#[]⟩ : ByteArray), .int .i64 0, .int .i64 0, .int .u8 0, .int .i64 0, .int .i64 0, .int .i64 0]) ?_ 1 _ rfl; (with_reducible repeat (first | refine blk_drewN ?_ _ | refine blk_drew ?_ | refine blk_alloc ?_ _)); refine blk_put (cs := #[.int .i64 0, .string (⟨#[]⟩ : ByteArray), .string (⟨#[]⟩ : ByteArray), .int .i64 0, .int .i64 0, .int .u8 0, .int .i64 0, .int .i64 0, .int .i64 0]) ?_ 0 _ rfl; (with_reducible repeat (first | refine blk_drewN ?_ _ | refine blk_drew ?_ | refine blk_alloc ?_ _)); exact BK274.out⟩, ⟨by repeat (first | (with_reducible first | exact HB.out | apply below_alloc | apply pw_below_drewN | apply below_drew1 | refine below_set ?_ GE274.out) | exact HB.out)⟩⟩
     case rest =>
      clear HC10
      try clear c1
      try clear p2
      try clear q2
      try clear hx2
      try clear c4
      try clear c7
      try clear c7b0
      try clear c8
      try clear c8b0
      try clear c15
      try clear c15b0
      try clear c15b1
      try clear c17
      try clear c17b0
      try clear c17b1
      try clear hcz14_0
      try clear hcz14_1
      try clear hcz14_2
      try clear hcz14_3
      try clear hcz14_4
      try clear hcz14_5
      try clear hcz14_6
      try clear hcz14_7
      try clear hcz14_8
      try clear hcz16_0
      try clear hcz16_1
      try clear hcz16_2
      try clear hcz16_3
      try clear hcz16_4
      try clear hcz16_5
      try clear hcz16_6
      try clear hcz16_7
      try clear hcz16_8
      try clear hcz18_0
      try clear hcz18_1
      try clear hcz18_2
      try clear hcz18_3
      try clear hcz18_4
      try clear hcz18_5
      try clear hcz18_6
      try clear hcz18_7
      try clear hcz18_8
      try clear hcz19_0
      try clear hcz19_1
      try clear hcz19_2
      try clear hcz19_3
      try clear hcz19_4
      try clear hcz19_5
      try clear hcz19_6
      try clear hcz19_7
      try clear hcz19_8
      try clear hfz14_0
      try clear hfz14_1
      try clear hfz14_2
      try clear hfz14_3
      try clear hfz14_4
      try clear hfz14_5
      try clear hfz14_6
      try clear hfz14_7
      try clear hfz14_8
      try clear hfz16_0
      try clear hfz16_1
      try clear hfz16_2
      try clear hfz16_3
      try clear hfz16_4
      try clear hfz16_5
      try clear hfz16_6
      try clear hfz16_7
      try clear hfz16_8
      try clear hfz18_0
      try clear hfz18_1
      try clear hfz18_2
      try clear hfz18_3
      try clear hfz18_4
      try clear hfz18_5
      try clear hfz18_6
      try clear hfz18_7
      try clear hfz18_8
      try clear hfz19_0
      try clear hfz19_1
      try clear hfz19_2
      try clear hfz19_3
      try clear hfz19_4
      try clear hfz19_5
      try clear hfz19_6
      try clear hfz19_7
      try clear hfz19_8
      try clear hx264_0
      try clear p2
      try clear p264
      try clear q264
      obtain ⟨kq, x41_9, rfl, HA, HJ9, HO_10, HO_11, BK274, HB⟩ := hcut
      cases kq with
      | zero => exact absurd HA.out (by simp [musterref27_beyond.j1])
      | succ kj9 =>
       have H := HA.out
       clear HA
       simp only [musterref27_beyond.j1] at H
       by_cases c20 : x41_9 = true
       ·subst c20
        have H1 : (musterref27_beyond.l0 kj9 l0 a1 a2 a3 t259 x11_1 (wrap64 (x12_1 + 1))) = some (r1, r2) := by rw [if_pos rfl] at H; exact H
        clear H
        have H := H1
        clear H1
        have H' := Aside0.mk H
        clear H
        go_wp2
        go_roundg kj9
        case measure => have := HK1.out; have := HJ9.out; omega
        case rel => exact ⟨(x11_1), (wrap64 (x12_1 + 1)), (by first | rfl | (simp; done) | (simp [*]; done)), H', ⟨by have := HK1.out; have := HJ9.out; omega⟩, ⟨by (with_reducible repeat (first | apply Kd.R_alloc | apply Kd.R_drewN | apply Kd.R_drew)); exact HO_10.out⟩, ⟨by (with_reducible repeat (first | apply Kd.R_alloc | apply Kd.R_drewN | apply Kd.R_drew)); exact HO_11.out⟩, ⟨by repeat (first | (with_reducible first | exact HB.out | apply below_alloc | apply pw_below_drewN | apply below_drew1 | refine below_set ?_ GE274.out) | exact HB.out)⟩⟩
       ·replace c20 := Bool.eq_false_iff.mpr c20
        subst c20
        have H1 : (if t273 ≥ 0 then (if x11_1.length < 17592186044416 then (musterref27_beyond.l0 kj9 l0 a1 a2 a3 t259 (x11_1 ++ [wrap64 ((mx (wrap64 ((mn a3 t273) - (mx a2 t272))) 0) * (wrap64 (t268 * t269)))]) (wrap64 (x12_1 + 1))) else (none)) else (if x11_1.length < 17592186044416 then (musterref27_beyond.l0 kj9 l0 a1 a2 a3 t259 (x11_1 ++ [wrap64 ((mx (wrap64 (a3 - (mx a2 t272))) 0) * (wrap64 (t268 * t269)))]) (wrap64 (x12_1 + 1))) else (none))) = some (r1, r2) := by rw [if_neg (show ¬ (false = true) by decide)] at H; exact H
        clear H
        have H := H1
        clear H1
        by_cases c21 : t273 ≥ 0
        ·rw [if_pos c21] at H
         have c21b0 : decide (0 ≤ t273) = true := decide_eq_true c21
         clear c21
         obtain ⟨ji22, hji22⟩ : ∃ j_ : Int, (mn a3 t273) = j_ := ⟨_, rfl⟩
         replace H : (if x11_1.length < 17592186044416 then (musterref27_beyond.l0 kj9 l0 a1 a2 a3 t259 (x11_1 ++ [wrap64 ((mx (wrap64 ((ji22) - (mx a2 t272))) 0) * (wrap64 (t268 * t269)))]) (wrap64 (x12_1 + 1))) else (none)) = some (r1, r2) := by first | (rw [hji22] at H; exact H) | (simp only [hji22] at H ⊢; exact H)
         have hji22_ : (if t273 < a3 then t273 else a3) = ji22 := hji22
         obtain ⟨ji23, hji23⟩ : ∃ j_ : Int, (mx a2 t272) = j_ := ⟨_, rfl⟩
         replace H : (if x11_1.length < 17592186044416 then (musterref27_beyond.l0 kj9 l0 a1 a2 a3 t259 (x11_1 ++ [wrap64 ((mx (wrap64 ((ji22) - (ji23))) 0) * (wrap64 (t268 * t269)))]) (wrap64 (x12_1 + 1))) else (none)) = some (r1, r2) := by first | (rw [hji23] at H; exact H) | (simp only [hji23] at H ⊢; exact H)
         have hji23_ : (if a2 < t272 then t272 else a2) = ji23 := hji23
         obtain ⟨ji24, hji24⟩ : ∃ j_ : Int, (mx (wrap64 ((ji22) - (ji23))) 0) = j_ := ⟨_, rfl⟩
         replace H : (if x11_1.length < 17592186044416 then (musterref27_beyond.l0 kj9 l0 a1 a2 a3 t259 (x11_1 ++ [wrap64 ((ji24) * (wrap64 (t268 * t269)))]) (wrap64 (x12_1 + 1))) else (none)) = some (r1, r2) := by first | (rw [hji24] at H; exact H) | (simp only [hji24] at H ⊢; exact H)
         have hji24_ : (if (wrap64 ((ji22) - (ji23))) < 0 then 0 else (wrap64 ((ji22) - (ji23)))) = ji24 := hji24
         by_cases c25 : x11_1.length < 17592186044416
         ·rw [if_pos c25] at H
          have LMc25 := Aside0.mk c25
          clear c25
          obtain ⟨y275, hy275⟩ : ∃ y_ : List Int, y_ = (x11_1 ++ [wrap64 ((ji24) * (wrap64 (t268 * t269)))]) := ⟨_, rfl⟩
          replace H : (musterref27_beyond.l0 kj9 l0 a1 a2 a3 t259 y275 (wrap64 (x12_1 + 1))) = some (r1, r2) := by first | (rw [hy275]; with_reducible exact H) | (have H2_ := (Option.bind_some _ _).symm.trans H; rw [hy275]; with_reducible exact H2_) | (have H2_ := (Option.bind_some _ _).symm.trans H; with_reducible exact H2_) | with_reducible exact H | (rw [hy275]; exact H) | exact H
          have Ny275 := Aside0.mk hy275
          clear hy275
          have H' := Aside0.mk H
          clear H
          have hcz26_0 : wc.cell? ⟨gb274, 0, none⟩ = some (.int .i64 t265) := (blk_cell BK274.out 0).trans rfl
          have hcz26_1 : wc.cell? ⟨gb274, 1, none⟩ = some (.string t266) := (blk_cell BK274.out 1).trans rfl
          have hcz26_2 : wc.cell? ⟨gb274, 2, none⟩ = some (.string t267) := (blk_cell BK274.out 2).trans rfl
          have hcz26_3 : wc.cell? ⟨gb274, 3, none⟩ = some (.int .i64 t268) := (blk_cell BK274.out 3).trans rfl
          have hcz26_4 : wc.cell? ⟨gb274, 4, none⟩ = some (.int .i64 t269) := (blk_cell BK274.out 4).trans rfl
          have hcz26_5 : wc.cell? ⟨gb274, 5, none⟩ = some (.int .u8 t270) := (blk_cell BK274.out 5).trans rfl
          have hcz26_6 : wc.cell? ⟨gb274, 6, none⟩ = some (.int .i64 t271) := (blk_cell BK274.out 6).trans rfl
          have hcz26_7 : wc.cell? ⟨gb274, 7, none⟩ = some (.int .i64 t272) := (blk_cell BK274.out 7).trans rfl
          have hcz26_8 : wc.cell? ⟨gb274, 8, none⟩ = some (.int .i64 t273) := (blk_cell BK274.out 8).trans rfl
          have hfz26_0 := blk_frozen BK274.out 0
          have hfz26_1 := blk_frozen BK274.out 1
          have hfz26_2 := blk_frozen BK274.out 2
          have hfz26_3 := blk_frozen BK274.out 3
          have hfz26_4 := blk_frozen BK274.out 4
          have hfz26_5 := blk_frozen BK274.out 5
          have hfz26_6 := blk_frozen BK274.out 6
          have hfz26_7 := blk_frozen BK274.out 7
          have hfz26_8 := blk_frozen BK274.out 8
          go_wp2_with (first | ((with_reducible refine gate_builtin (b := .append) (xs := #[.tmp 50, .tmp 64]) rfl ?_); at_builtin; refine Kd.R_append (Kd.int .i64) (w0 := w) w.heap.size rfl (.tmp 50) (.tmp 64) 22 2 (.int .i64 0) 8 rfl Try.underlying22 info2 rfl (by decide) (by omega) u11 x11_1 (wrap64 ((ji24) * (wrap64 (t268 * t269)))) [.int .i64 (wrap64 ((ji24) * (wrap64 (t268 * t269))))] (fun _ => True) (fun _ => False) rfl rfl ?aP (fun _ hk => hk.elim) ?aF ?aO ?aB ?aS ?aL ?_; (case aP => exact rfl); (case aB => exact (by repeat (first | (with_reducible first | exact HB.out | apply below_alloc | apply pw_below_drewN | apply below_drew1 | refine below_set ?_ GE274.out) | exact HB.out))); (case aF => exact (fun _ _ => trivial)); (case aO => exact (by (with_reducible repeat (first | apply Kd.R_alloc | apply Kd.R_drewN | apply Kd.R_drew)); exact HO_11.out)); (case aS => exact (below_size (by repeat (first | (with_reducible first | exact HB.out | apply below_alloc | apply pw_below_drewN | apply below_drew1 | refine below_set ?_ GE274.out) | exact HB.out)))); (case aL => have := LMc25.out; omega); intro v276 w27 ho hb hg hat; rw [← Ny275.out] at ho; have n0_ := Aside0.mk (Kd.R_over' (by (with_reducible repeat (first | apply Kd.R_alloc | apply Kd.R_drewN | apply Kd.R_drew)); exact HO_10.out) (Kd.R_typed (by (with_reducible repeat (first | apply Kd.R_alloc | apply Kd.R_drewN | apply Kd.R_drew)); exact HO_11.out)) (by decide) hg); have n1_ := Aside0.mk (blk_grown (g := gb274) (o := .cells #[.int .i64 t265, .string t266, .string t267, .int .i64 t268, .int .i64 t269, .int .u8 t270, .int .i64 t271, .int .i64 t272, .int .i64 t273] 56 (0, 0)) (by (with_reducible repeat (first | refine blk_drewN ?_ _ | refine blk_drew ?_ | refine blk_alloc ?_ _)); exact BK274.out) hg (Kd.R_ne HO_11.out BK274.out (by decide))); have n2_ := Aside0.mk (hb); have n3_ := Aside0.mk (ho); clear HO_10; clear BK274; clear HB; clear HO_11; have HO_10 := n0_; have BK274 := n1_; have HB := n2_; have HO277 := n3_; clear n0_ n1_ n2_ n3_; clear ho hb hg hat))
          go_roundg kj9
          case measure => have := HK1.out; have := HJ9.out; omega
          case rel => exact ⟨(y275), (wrap64 (x12_1 + 1)), (by first | rfl | (simp; done) | (simp [*]; done)), H', ⟨by have := HK1.out; have := HJ9.out; omega⟩, ⟨by (with_reducible repeat (first | apply Kd.R_alloc | apply Kd.R_drewN | apply Kd.R_drew)); exact HO_10.out⟩, ⟨by (with_reducible repeat (first | apply Kd.R_alloc | apply Kd.R_drewN | apply Kd.R_drew)); exact HO277.out⟩, ⟨by repeat (first | (with_reducible first | exact HB.out | apply below_alloc | apply pw_below_drewN | apply below_drew1 | refine below_set ?_ GE274.out) | exact HB.out)⟩⟩
         ·rw [if_neg c25] at H
          exact absurd H (by simp)
        ·rw [if_neg c21] at H
         have c21b0 : decide (0 ≤ t273) = false := decide_eq_false c21
         clear c21
         obtain ⟨ji28, hji28⟩ : ∃ j_ : Int, (mx a2 t272) = j_ := ⟨_, rfl⟩
         replace H : (if x11_1.length < 17592186044416 then (musterref27_beyond.l0 kj9 l0 a1 a2 a3 t259 (x11_1 ++ [wrap64 ((mx (wrap64 (a3 - (ji28))) 0) * (wrap64 (t268 * t269)))]) (wrap64 (x12_1 + 1))) else (none)) = some (r1, r2) := by first | (rw [hji28] at H; exact H) | (simp only [hji28] at H ⊢; exact H)
         have hji28_ : (if a2 < t272 then t272 else a2) = ji28 := hji28
         obtain ⟨ji29, hji29⟩ : ∃ j_ : Int, (mx (wrap64 (a3 - (ji28))) 0) = j_ := ⟨_, rfl⟩
         replace H : (if x11_1.length < 17592186044416 then (musterref27_beyond.l0 kj9 l0 a1 a2 a3 t259 (x11_1 ++ [wrap64 ((ji29) * (wrap64 (t268 * t269)))]) (wrap64 (x12_1 + 1))) else (none)) = some (r1, r2) := by first | (rw [hji29] at H; exact H) | (simp only [hji29] at H ⊢; exact H)
         have hji29_ : (if (wrap64 (a3 - (ji28))) < 0 then 0 else (wrap64 (a3 - (ji28)))) = ji29 := hji29
         by_cases c30 : x11_1.length < 17592186044416
         ·rw [if_pos c30] at H
          have LMc30 := Aside0.mk c30
          clear c30
          obtain ⟨y278, hy278⟩ : ∃ y_ : List Int, y_ = (x11_1 ++ [wrap64 ((ji29) * (wrap64 (t268 * t269)))]) := ⟨_, rfl⟩
          replace H : (musterref27_beyond.l0 kj9 l0 a1 a2 a3 t259 y278 (wrap64 (x12_1 + 1))) = some (r1, r2) := by first | (rw [hy278]; with_reducible exact H) | (have H2_ := (Option.bind_some _ _).symm.trans H; rw [hy278]; with_reducible exact H2_) | (have H2_ := (Option.bind_some _ _).symm.trans H; with_reducible exact H2_) | with_reducible exact H | (rw [hy278]; exact H) | exact H
          have Ny278 := Aside0.mk hy278
          clear hy278
          have H' := Aside0.mk H
          clear H
          have hcz31_0 : wc.cell? ⟨gb274, 0, none⟩ = some (.int .i64 t265) := (blk_cell BK274.out 0).trans rfl
          have hcz31_1 : wc.cell? ⟨gb274, 1, none⟩ = some (.string t266) := (blk_cell BK274.out 1).trans rfl
          have hcz31_2 : wc.cell? ⟨gb274, 2, none⟩ = some (.string t267) := (blk_cell BK274.out 2).trans rfl
          have hcz31_3 : wc.cell? ⟨gb274, 3, none⟩ = some (.int .i64 t268) := (blk_cell BK274.out 3).trans rfl
          have hcz31_4 : wc.cell? ⟨gb274, 4, none⟩ = some (.int .i64 t269) := (blk_cell BK274.out 4).trans rfl
          have hcz31_5 : wc.cell? ⟨gb274, 5, none⟩ = some (.int .u8 t270) := (blk_cell BK274.out 5).trans rfl
          have hcz31_6 : wc.cell? ⟨gb274, 6, none⟩ = some (.int .i64 t271) := (blk_cell BK274.out 6).trans rfl
          have hcz31_7 : wc.cell? ⟨gb274, 7, none⟩ = some (.int .i64 t272) := (blk_cell BK274.out 7).trans rfl
          have hcz31_8 : wc.cell? ⟨gb274, 8, none⟩ = some (.int .i64 t273) := (blk_cell BK274.out 8).trans rfl
          have hfz31_0 := blk_frozen BK274.out 0
          have hfz31_1 := blk_frozen BK274.out 1
          have hfz31_2 := blk_frozen BK274.out 2
          have hfz31_3 := blk_frozen BK274.out 3
          have hfz31_4 := blk_frozen BK274.out 4
          have hfz31_5 := blk_frozen BK274.out 5
          have hfz31_6 := blk_frozen BK274.out 6
          have hfz31_7 := blk_frozen BK274.out 7
          have hfz31_8 := blk_frozen BK274.out 8
          go_wp2_with (first | ((with_reducible refine gate_builtin (b := .append) (xs := #[.tmp 50, .tmp 64]) rfl ?_); at_builtin; refine Kd.R_append (Kd.int .i64) (w0 := w) w.heap.size rfl (.tmp 50) (.tmp 64) 22 2 (.int .i64 0) 8 rfl Try.underlying22 info2 rfl (by decide) (by omega) u11 x11_1 (wrap64 ((ji29) * (wrap64 (t268 * t269)))) [.int .i64 (wrap64 ((ji29) * (wrap64 (t268 * t269))))] (fun _ => True) (fun _ => False) rfl rfl ?aP (fun _ hk => hk.elim) ?aF ?aO ?aB ?aS ?aL ?_; (case aP => exact rfl); (case aB => exact (by repeat (first | (with_reducible first | exact HB.out | apply below_alloc | apply pw_below_drewN | apply below_drew1 | refine below_set ?_ GE274.out) | exact HB.out))); (case aF => exact (fun _ _ => trivial)); (case aO => exact (by (with_reducible repeat (first | apply Kd.R_alloc | apply Kd.R_drewN | apply Kd.R_drew)); exact HO_11.out)); (case aS => exact (below_size (by repeat (first | (with_reducible first | exact HB.out | apply below_alloc | apply pw_below_drewN | apply below_drew1 | refine below_set ?_ GE274.out) | exact HB.out)))); (case aL => have := LMc30.out; omega); intro v279 w32 ho hb hg hat; rw [← Ny278.out] at ho; have n0_ := Aside0.mk (Kd.R_over' (by (with_reducible repeat (first | apply Kd.R_alloc | apply Kd.R_drewN | apply Kd.R_drew)); exact HO_10.out) (Kd.R_typed (by (with_reducible repeat (first | apply Kd.R_alloc | apply Kd.R_drewN | apply Kd.R_drew)); exact HO_11.out)) (by decide) hg); have n1_ := Aside0.mk (blk_grown (g := gb274) (o := .cells #[.int .i64 t265, .string t266, .string t267, .int .i64 t268, .int .i64 t269, .int .u8 t270, .int .i64 t271, .int .i64 t272, .int .i64 t273] 56 (0, 0)) (by (with_reducible repeat (first | refine blk_drewN ?_ _ | refine blk_drew ?_ | refine blk_alloc ?_ _)); exact BK274.out) hg (Kd.R_ne HO_11.out BK274.out (by decide))); have n2_ := Aside0.mk (hb); have n3_ := Aside0.mk (ho); clear HO_10; clear BK274; clear HB; clear HO_11; have HO_10 := n0_; have BK274 := n1_; have HB := n2_; have HO280 := n3_; clear n0_ n1_ n2_ n3_; clear ho hb hg hat))
          go_roundg kj9
          case measure => have := HK1.out; have := HJ9.out; omega
          case rel => exact ⟨(y278), (wrap64 (x12_1 + 1)), (by first | rfl | (simp; done) | (simp [*]; done)), H', ⟨by have := HK1.out; have := HJ9.out; omega⟩, ⟨by (with_reducible repeat (first | apply Kd.R_alloc | apply Kd.R_drewN | apply Kd.R_drew)); exact HO_10.out⟩, ⟨by (with_reducible repeat (first | apply Kd.R_alloc | apply Kd.R_drewN | apply Kd.R_drew)); exact HO280.out⟩, ⟨by repeat (first | (with_reducible first | exact HB.out | apply below_alloc | apply pw_below_drewN | apply below_drew1 | refine below_set ?_ GE274.out) | exact HB.out)⟩⟩
         ·rw [if_neg c30] at H
          exact absurd H (by simp)
    ·rw [if_neg c8] at H
     exact absurd H (by simp)
   ·rw [if_neg c7] at H
    have c7b0 : decide (x12_1 < (t259.length : Int)) = false := decide_eq_false c7
    clear c7
    replace H := Option.bind_eq_some_iff.mp H
    obtain ⟨⟨t262, t263⟩, A330, H⟩ := H
    replace H : (some (t262, t263)) = some (r1, r2) := H
    have A33 := Aside0.mk A330
    clear A330
    simp only [Option.some.injEq, Prod.mk.injEq] at H
    obtain ⟨rfl, rfl⟩ := H
    obtain ⟨Ao34, co34, eo34⟩ := Kd.R_slice HO_10.out
    subst eo34
    obtain ⟨Ao35, co35, eo35⟩ := Kd.R_slice HO_11.out
    subst eo35
    go_wp2_with (first | ((with_reducible refine gate_callee (f := 12) rfl ?_); refine goesL_ (some 67) rfl rfl Try.func12 (by kernel_rfl) rfl #[.slice Ao35 x11_1.length co35] rfl (by (try simp only [List.map_toArray, List.map_cons, List.map_nil]); first | done | rfl | (simp only [List.length_drop, List.length_take]; rfl)) ?_; (with_reducible refine (musterref27_Sum.calls k1 _ _ x11_1 t262 t263 _ ?side1 ?side2 A33.out).mono ?_); (case side1 => repeat (first | exact (Kd.R_reads' HO_11.out).2.2 | (with_reducible refine Kd.C_alloc ?_ _) | (with_reducible refine Kd.C_drewN ?_ _) | (with_reducible refine Kd.C_drew ?_))); (case side2 => exact (Kd.R_reads' HO_11.out).2.1); rintro e w' ⟨rfl, ⟨nd, rfl⟩⟩; refine ⟨_, rfl, ?_⟩))
    go_ret2
    exact ⟨by first | rfl | (simp [errW_none, errW_some] <;> rfl) | (simp [*, errW_none, errW_some] <;> rfl), by repeat (first | (with_reducible first | exact HB.out | apply below_alloc | apply pw_below_drewN | apply below_drew1) | exact HB.out)⟩

end Go.Proofs.Ytinpgejkkfpckaa.Pr
