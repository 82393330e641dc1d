-- MINIFIED by wip/tools/minify.py
-- Written by this session's program wip/tools/pr.py out of the translation (with the kit's print.py). Not trusted: Lean checks it.
import Derived.Test.YtafnjlgdjhegaaaPr0
namespace Go.Proofs.Ytafnjlgdjhegaaa.Pr
open Go.RowKit Go.Proofs.YtafnjlgdjhegaaaW.PrintWords Go.Proofs.YtafnjlgdjhegaaaW.PrintLast Go.Proofs.YtafnjlgdjhegaaaW.PrintMore
attribute [local go_sem] max2_int min2_int max_two min_two max_three min_three max_four min_four   -- for this text's walks alone
set_option linter.unusedVariables false
set_option linter.unusedSimpArgs false

/-! ### musterref09_Right: function 15 -/
mutual
def musterref09_Right.l0 : Nat → List (S44) → Int → Option (Bool)
 | 0, _, _ => none
 | k + 1, x0, x3 => if x3 < (x0.length : Int) then (if 0 ≤ x3 then (if ((rd_T44 x0 x3).f0) < 1 then (musterref09_Right.j1 k x0 x3 true ((rd_T44 x0 x3).f0) ((rd_T44 x0 x3).f1) ((rd_T44 x0 x3).f2)) else (if ((rd_T44 x0 x3).f0) > 4611686018427387904 then (musterref09_Right.j1 k x0 x3 true ((rd_T44 x0 x3).f0) ((rd_T44 x0 x3).f1) ((rd_T44 x0 x3).f2)) else (if x3 > 0 then (if 0 ≤ (wrap64 (x3 - 1)) then (if (wrap64 (x3 - 1)) < (x0.length : Int) then (if ((rd_T44 x0 x3).f0) ≤ ((rd_T44 x0 (wrap64 (x3 - 1))).f0) then (musterref09_Right.j1 k x0 x3 true ((rd_T44 x0 x3).f0) ((rd_T44 x0 x3).f1) ((rd_T44 x0 x3).f2)) else (if ((rd_T44 x0 x3).f1) < 0 then (musterref09_Right.j1 k x0 x3 true ((rd_T44 x0 x3).f0) ((rd_T44 x0 x3).f1) ((rd_T44 x0 x3).f2)) else (if ((rd_T44 x0 x3).f1) > 4611686018427387904 then (musterref09_Right.j1 k x0 x3 true ((rd_T44 x0 x3).f0) ((rd_T44 x0 x3).f1) ((rd_T44 x0 x3).f2)) else (musterref09_Right.j1 k x0 x3 (decide ((((rd_T44 x0 x3).f2).length : Int) > 8)) ((rd_T44 x0 x3).f0) ((rd_T44 x0 x3).f1) ((rd_T44 x0 x3).f2))))) else (none)) else (none)) else (if ((rd_T44 x0 x3).f1) < 0 then (musterref09_Right.j1 k x0 x3 true ((rd_T44 x0 x3).f0) ((rd_T44 x0 x3).f1) ((rd_T44 x0 x3).f2)) else (if ((rd_T44 x0 x3).f1) > 4611686018427387904 then (musterref09_Right.j1 k x0 x3 true ((rd_T44 x0 x3).f0) ((rd_T44 x0 x3).f1) ((rd_T44 x0 x3).f2)) else (musterref09_Right.j1 k x0 x3 (decide ((((rd_T44 x0 x3).f2).length : Int) > 8)) ((rd_T44 x0 x3).f0) ((rd_T44 x0 x3).f1) ((rd_T44 x0 x3).f2))))))) else (none)) else (some true)
def musterref09_Right.j1 : Nat → List (S44) → Int → Bool → Int → Int → List (S46) → Option (Bool)
 | 0, _, _, _, _, _, _ => none
 | k + 1, x0, x3, x58, x190000, x190001, x190002 => if x58 = true then (some false) else (musterref09_Right.l1 k x0 x3 x190001 0 x190000 x190001 x190002)
def musterref09_Right.l1 : Nat → List (S44) → Int → Int → Int → Int → Int → List (S46) → Option (Bool)
 | 0, _, _, _, _, _, _, _ => none
 | k + 1, x0, x3, x5, x6, x190000, x190001, x190002 => if x6 < (x190002.length : Int) then (if 0 ≤ x6 then (if ((rd_T46 x190002 x6).f0) ≤ x5 then (some false) else (if ((rd_T46 x190002 x6).f0) > 4611686018427387904 then (some false) else (musterref09_Right.l1 k x0 x3 ((rd_T46 x190002 x6).f0) (wrap64 (x6 + 1)) x190000 x190001 x190002))) else (none)) else (musterref09_Right.l0 k x0 (wrap64 (x3 + 1)))
end
def musterref09_Right.f (k : Nat) (l0 : List (S44)) : Option (Bool) := if (l0.length : Int) > 16 then (some false) else (musterref09_Right.l0 k l0 0)
theorem musterref09_Right.mono_l : ∀ k, (∀ y0 y1, LeO (musterref09_Right.l0 k y0 y1) (musterref09_Right.l0 (k + 1) y0 y1)) ∧ (∀ y0 y1 y2 y3 y4 y5, LeO (musterref09_Right.j1 k y0 y1 y2 y3 y4 y5) (musterref09_Right.j1 (k + 1) y0 y1 y2 y3 y4 y5)) ∧ (∀ y0 y1 y2 y3 y4 y5 y6, LeO (musterref09_Right.l1 k y0 y1 y2 y3 y4 y5 y6) (musterref09_Right.l1 (k + 1) y0 y1 y2 y3 y4 y5 y6))
 | 0 => ⟨fun _ _ r h => by simp [musterref09_Right.l0] at h, fun _ _ _ _ _ _ r h => by simp [musterref09_Right.j1] at h, fun _ _ _ _ _ _ _ r h => by simp [musterref09_Right.l1] at h⟩
 | k + 1 => by
  obtain ⟨ih0, ih1, ih2⟩ := musterref09_Right.mono_l k
  refine ⟨?_, ?_, ?_⟩
  ·intro y0 y1
   unfold musterref09_Right.l0
   repeat' first
   | (with_reducible exact ih0 _ _)
   | (with_reducible exact ih1 _ _ _ _ _ _)
   | (with_reducible exact ih2 _ _ _ _ _ _ _)
   | (with_reducible exact LeO.refl _)
   | (with_reducible exact LeO.none _)
   | (with_reducible refine LeO.ite ?_ ?_)
   | (with_reducible refine LeO.bind ?_ (fun _ => ?_))
   | exact ih0 _ _
   | exact ih1 _ _ _ _ _ _
   | exact ih2 _ _ _ _ _ _ _
   | exact LeO.none _
   | refine LeO.ite ?_ ?_
   | refine LeO.bind ?_ (fun _ => ?_)
  ·intro y0 y1 y2 y3 y4 y5
   unfold musterref09_Right.j1
   repeat' first
   | (with_reducible exact ih0 _ _)
   | (with_reducible exact ih1 _ _ _ _ _ _)
   | (with_reducible exact ih2 _ _ _ _ _ _ _)
   | (with_reducible exact LeO.refl _)
   | (with_reducible exact LeO.none _)
   | (with_reducible refine LeO.ite ?_ ?_)
   | (with_reducible refine LeO.bind ?_ (fun _ => ?_))
   | exact ih0 _ _
   | exact ih1 _ _ _ _ _ _
   | exact ih2 _ _ _ _ _ _ _
   | exact LeO.none _
   | refine LeO.ite ?_ ?_
   | refine LeO.bind ?_ (fun _ => ?_)
  ·intro y0 y1 y2 y3 y4 y5 y6
   unfold musterref09_Right.l1
   repeat' first
   | (with_reducible exact ih0 _ _)
   | (with_reducible exact ih1 _ _ _ _ _ _)
   | (with_reducible exact ih2 _ _ _ _ _ _ _)
   | (with_reducible exact LeO.refl _)
   | (with_reducible exact LeO.none _)
   | (with_reducible refine LeO.ite ?_ ?_)
   | (with_reducible refine LeO.bind ?_ (fun _ => ?_))
   | exact ih0 _ _
   | exact ih1 _ _ _ _ _ _
   | exact ih2 _ _ _ _ _ _ _
   | exact LeO.none _
   | refine LeO.ite ?_ ?_
   | refine LeO.bind ?_ (fun _ => ?_)
theorem musterref09_Right.mono : ∀ a0 k, LeO (musterref09_Right.f k a0) (musterref09_Right.f (k + 1) a0) := by
 intro a0 k
 obtain ⟨ih0, ih1, ih2⟩ := musterref09_Right.mono_l k
 unfold musterref09_Right.f
 repeat' first
   | (with_reducible exact ih0 _ _)
   | (with_reducible exact ih1 _ _ _ _ _ _)
   | (with_reducible exact ih2 _ _ _ _ _ _ _)
   | (with_reducible exact LeO.refl _)
   | (with_reducible exact LeO.none _)
   | (with_reducible refine LeO.ite ?_ ?_)
   | (with_reducible refine LeO.bind ?_ (fun _ => ?_))
   | exact ih0 _ _
   | exact ih1 _ _ _ _ _ _
   | exact ih2 _ _ _ _ _ _ _
   | exact LeO.none _
   | refine LeO.ite ?_ ?_
   | refine LeO.bind ?_ (fun _ => ?_)
set_option maxHeartbeats 8000000 in
set_option maxRecDepth 100000 in
theorem musterref09_Right.calls (k : Nat) (A0 : Option Addr) (c0 : Nat) (l0 : List (S44)) (r : Bool) (w : World) (hr0 : Kd.C k44 w A0 l0.length l0) (hc0 : l0.length ≤ c0) (h : musterref09_Right.f k l0 = some r) :
  Calls Try.prog 15 #[.slice A0 l0.length c0] w fun e w' => e = .returned (.bool r) ∧ Below w.heap.size w w' := by
 have hu44 := Try.underlying44
 have HR0 := Aside0.mk hr0
 have HC0 := Aside0.mk hc0
 clear hr0 hc0
 have HB := Aside0.mk (Below.refl w.heap.size w)
 have H : (if (l0.length : Int) > 16 then (some false) else (musterref09_Right.l0 k l0 0)) = some r := h
 clear h
 by_cases c2 : (l0.length : Int) > 16
 ·rw [if_pos c2] at H
  have c2b0 : decide (16 < (l0.length : Int)) = true := decide_eq_true c2
  have c2b1 : decide (16 < l0.length) = true := decide_eq_true (by omega)
  clear c2
  obtain rfl := Option.some.inj H
  go_enter Try.func15, Try.ntmps15
  go_wp2
  repeat (go_quiet (fail); try go_wp2)
  go_ret
  exact ⟨by first | rfl | (simp [errW_none, errW_some] <;> rfl) | (simp [*, errW_none, errW_some] <;> rfl), by repeat (first | (with_reducible first | exact HB.out | apply below_alloc | apply pw_below_drewN | apply below_drew1) | exact HB.out)⟩
 ·rw [if_neg c2] at H
  have c2b0 : decide (16 < (l0.length : Int)) = false := decide_eq_false c2
  have c2b1 : decide (16 < l0.length) = false := decide_eq_false (by omega)
  clear c2
  have H' := Aside0.mk H
  clear H
  go_enter Try.func15, Try.ntmps15
  go_wp2
  repeat (go_quiet (fail); try go_wp2)
  go_loopg [3] k (fun kq v3 w' => ∃ (x3_1 : Int), v3 = .int .i64 x3_1 ∧ Aside0 (musterref09_Right.l0 kq l0 x3_1 = some r) ∧ Aside0 (kq ≤ k) ∧ Aside0 (Below w.heap.size w w'))
  case atStart => exact ⟨(0), (by first | rfl | (simp; done) | (simp [*]; done)), H', ⟨Nat.le_refl _⟩, ⟨by repeat (first | (with_reducible first | exact HB.out | apply below_alloc | apply pw_below_drewN | apply below_drew1) | exact HB.out)⟩⟩
  case round =>
   clear H'
   try clear c1
   try clear c2
   try clear c2b0
   try clear c2b1
   try clear p2
   obtain ⟨x3_1, rfl, HA, HK1, HB⟩ := hrel
   cases gk with
   | zero => exact absurd HA.out (by simp [musterref09_Right.l0])
   | succ k1 =>
    have H := HA.out
    clear HA
    simp only [musterref09_Right.l0] at H
    by_cases c3 : x3_1 < (l0.length : Int)
    ·rw [if_pos c3] at H
     have c3b0 : decide (x3_1 < (l0.length : Int)) = true := decide_eq_true c3
     clear c3
     by_cases c4 : 0 ≤ x3_1
     ·rw [if_pos c4] at H
      have c4b0 : decide (0 ≤ x3_1) = true := decide_eq_true c4
      clear c4
      have HC5 := Aside0.mk H
      clear H
      have p188 : 0 ≤ (x3_1 : Int) := of_decide_eq_true (by first | (with_reducible assumption) | assumption)
      have q188 : x3_1 < (l0.length : Int) := of_decide_eq_true (by first | (with_reducible assumption) | assumption)
      obtain ⟨ad188, A188_2, c188_2, e188, hx188_0, hx188_1, hx188_2, hl188_2, hi188_2⟩ := at_T44 HR0.out x3_1 p188 q188
      cases e188
      replace hx188_0 := (HB.out.cell (World.block_lt_of_cell? w _ hx188_0)).trans hx188_0
      replace hx188_1 := (HB.out.cell (World.block_lt_of_cell? w _ hx188_1)).trans hx188_1
      replace hx188_2 := (HB.out.cell (World.block_lt_of_cell? w _ hx188_2)).trans hx188_2
      have HR188_2 := Aside0.mk hi188_2
      have HC188_2 := Aside0.mk hl188_2
      clear hi188_2 hl188_2
      replace p188 := eq_true p188
      replace q188 := eq_true q188
      go_upto_region 7 with (first | ((with_reducible refine gate_dst (N := 4) rfl ?_); (try (refine gate_guard (by rfl) ?_; dsimp only)); refine box_event ?hg (N := 4) ?hd (cs := #[.int .i64 0, .int .i64 0, .slice none 0 0]) (t := 44) ?hr ?_; (case hd => rfl); (case hg => rfl); (case hr => first | (go_simp; done) | (go_simp; rfl)); intro gb189 hg w6 hbox hb; have n0_ := Aside0.mk (below_step (by repeat (first | (with_reducible first | exact HB.out | apply below_alloc | apply pw_below_drewN | apply below_drew1) | exact HB.out)) hb); have n1_ := Aside0.mk (hbox); have n2_ := Aside0.mk ((by rw [hg]; exact (below_size (by repeat (first | (with_reducible first | exact HB.out | apply below_alloc | apply pw_below_drewN | apply below_drew1) | exact HB.out))) : w.heap.size ≤ gb189)); have n3_ := Aside0.mk ((by rw [hg]; exact (below_size (by repeat (first | (with_reducible first | exact HB.out | apply below_alloc | apply pw_below_drewN | apply below_drew1) | exact HB.out))) : w.heap.size ≤ gb189)); clear HB; have HB := n0_; have BK189 := n1_; have GW189 := n2_; have GE189 := n3_; clear n0_ n1_ n2_ n3_; clear hb hbox hg; have hcz7_0 : w6.cell? ⟨gb189, 0, none⟩ = some (.int .i64 0) := (blk_cell BK189.out 0).trans rfl; have hcz7_1 : w6.cell? ⟨gb189, 1, none⟩ = some (.int .i64 0) := (blk_cell BK189.out 1).trans rfl; have hcz7_2 : w6.cell? ⟨gb189, 2, none⟩ = some (.slice none 0 0) := (blk_cell BK189.out 2).trans rfl; have hfz7_0 := blk_frozen BK189.out 0; have hfz7_1 := blk_frozen BK189.out 1; have hfz7_2 := blk_frozen BK189.out 2))
      repeat (go_quiet (first | ((with_reducible refine gate_dst (N := 4) rfl ?_); (try (refine gate_guard (by rfl) ?_; dsimp only)); refine box_event ?hg (N := 4) ?hd (cs := #[.int .i64 0, .int .i64 0, .slice none 0 0]) (t := 44) ?hr ?_; (case hd => rfl); (case hg => rfl); (case hr => first | (go_simp; done) | (go_simp; rfl)); intro gb189 hg w6 hbox hb; have n0_ := Aside0.mk (below_step (by repeat (first | (with_reducible first | exact HB.out | apply below_alloc | apply pw_below_drewN | apply below_drew1) | exact HB.out)) hb); have n1_ := Aside0.mk (hbox); have n2_ := Aside0.mk ((by rw [hg]; exact (below_size (by repeat (first | (with_reducible first | exact HB.out | apply below_alloc | apply pw_below_drewN | apply below_drew1) | exact HB.out))) : w.heap.size ≤ gb189)); have n3_ := Aside0.mk ((by rw [hg]; exact (below_size (by repeat (first | (with_reducible first | exact HB.out | apply below_alloc | apply pw_below_drewN | apply below_drew1) | exact HB.out))) : w.heap.size ≤ gb189)); clear HB; have HB := n0_; have BK189 := n1_; have GW189 := n2_; have GE189 := n3_; clear n0_ n1_ n2_ n3_; clear hb hbox hg; have hcz7_0 : w6.cell? ⟨gb189, 0, none⟩ = some (.int .i64 0) := (blk_cell BK189.out 0).trans rfl; have hcz7_1 : w6.cell? ⟨gb189, 1, none⟩ = some (.int .i64 0) := (blk_cell BK189.out 1).trans rfl; have hcz7_2 : w6.cell? ⟨gb189, 2, none⟩ = some (.slice none 0 0) := (blk_cell BK189.out 2).trans rfl; have hfz7_0 := blk_frozen BK189.out 0; have hfz7_1 := blk_frozen BK189.out 1; have hfz7_2 := blk_frozen BK189.out 2)); go_upto_region 7 with (first | ((with_reducible refine gate_dst (N := 4) rfl ?_); (try (refine gate_guard (by rfl) ?_; dsimp only)); refine box_event ?hg (N := 4) ?hd (cs := #[.int .i64 0, .int .i64 0, .slice none 0 0]) (t := 44) ?hr ?_; (case hd => rfl); (case hg => rfl); (case hr => first | (go_simp; done) | (go_simp; rfl)); intro gb189 hg w6 hbox hb; have n0_ := Aside0.mk (below_step (by repeat (first | (with_reducible first | exact HB.out | apply below_alloc | apply pw_below_drewN | apply below_drew1) | exact HB.out)) hb); have n1_ := Aside0.mk (hbox); have n2_ := Aside0.mk ((by rw [hg]; exact (below_size (by repeat (first | (with_reducible first | exact HB.out | apply below_alloc | apply pw_below_drewN | apply below_drew1) | exact HB.out))) : w.heap.size ≤ gb189)); have n3_ := Aside0.mk ((by rw [hg]; exact (below_size (by repeat (first | (with_reducible first | exact HB.out | apply below_alloc | apply pw_below_drewN | apply below_drew1) | exact HB.out))) : w.heap.size ≤ gb189)); clear HB; have HB := n0_; have BK189 := n1_; have GW189 := n2_; have GE189 := n3_; clear n0_ n1_ n2_ n3_; clear hb hbox hg; have hcz7_0 : w6.cell? ⟨gb189, 0, none⟩ = some (.int .i64 0) := (blk_cell BK189.out 0).trans rfl; have hcz7_1 : w6.cell? ⟨gb189, 1, none⟩ = some (.int .i64 0) := (blk_cell BK189.out 1).trans rfl; have hcz7_2 : w6.cell? ⟨gb189, 2, none⟩ = some (.slice none 0 0) := (blk_cell BK189.out 2).trans rfl; have hfz7_0 := blk_frozen BK189.out 0; have hfz7_1 := blk_frozen BK189.out 1; have hfz7_2 := blk_frozen BK189.out 2)))
      (try simp only [Act.put, List.setIfInBounds_toArray, List.set_cons_zero, List.set_cons_succ])
      go_cut [58] (fun v58 wc => ∃ (kq : Nat) (x58_4 : Bool), v58 = .bool x58_4 ∧ Aside0 (musterref09_Right.j1 kq l0 x3_1 x58_4 ((rd_T44 l0 x3_1).f0) ((rd_T44 l0 x3_1).f1) ((rd_T44 l0 x3_1).f2) = some r) ∧ Aside0 (kq ≤ k1) ∧ Aside0 (wc.heap[gb189]? = some (.cells #[.int .i64 ((rd_T44 l0 x3_1).f0), .int .i64 ((rd_T44 l0 x3_1).f1), (.slice A188_2 ((rd_T44 l0 x3_1).f2).length c188_2)] 44 (0, 0))) ∧ Aside0 (Below w.heap.size w wc))
      case first =>
       have H := HC5.out
       clear HC5
       by_cases c8 : ((rd_T44 l0 x3_1).f0) < 1
       ·rw [if_pos c8] at H
        have c8b0 : decide (((rd_T44 l0 x3_1).f0) < 1) = true := decide_eq_true c8
        clear c8
        (first | rw [c8b0] | (simp only [i64_w, i32_w]; rw [c8b0]) | skip)
        have H' := Aside0.mk H
        clear H
        have hcz9_0 : w6.cell? ⟨gb189, 0, none⟩ = some (.int .i64 0) := (blk_cell BK189.out 0).trans rfl
        have hcz9_1 : w6.cell? ⟨gb189, 1, none⟩ = some (.int .i64 0) := (blk_cell BK189.out 1).trans rfl
        have hcz9_2 : w6.cell? ⟨gb189, 2, none⟩ = some (.slice none 0 0) := (blk_cell BK189.out 2).trans rfl
        have hfz9_0 := blk_frozen BK189.out 0
        have hfz9_1 := blk_frozen BK189.out 1
        have hfz9_2 := blk_frozen BK189.out 2
        go_wp2
        repeat (go_quiet (fail); try go_wp2)
        go_meet
        case rel => exact ⟨_, (true), (by first | rfl | (simp; done) | (simp [*]; done)), H', ⟨by have := HK1.out; first | omega | exact Nat.le_refl _⟩, ⟨by (with_reducible repeat (first | refine blk_drewN ?_ _ | refine blk_drew ?_ | refine blk_alloc ?_ _)); refine blk_put (cs := #[.int .i64 ((rd_T44 l0 x3_1).f0), .int .i64 ((rd_T44 l0 x3_1).f1), .slice none 0 0]) ?_ 2 _ rfl; (with_reducible repeat (first | refine blk_drewN ?_ _ | refine blk_drew ?_ | refine blk_alloc ?_ _)); refine blk_put (cs := #[.int .i64 ((rd_T44 l0 x3_1).f0), .int .i64 0, .slice none 0 0]) ?_ 1 _ rfl; (with_reducible repeat (first | refine blk_drewN ?_ _ | refine blk_drew ?_ | refine blk_alloc ?_ _)); refine blk_put (cs := #[.int .i64 0, .int .i64 0, .slice none 0 0]) ?_ 0 _ rfl; (with_reducible repeat (first | refine blk_drewN ?_ _ | refine blk_drew ?_ | refine blk_alloc ?_ _)); exact BK189.out⟩, ⟨by repeat (first | (with_reducible first | exact HB.out | apply below_alloc | apply pw_below_drewN | apply below_drew1 | refine below_set ?_ GE189.out) | exact HB.out)⟩⟩
       ·rw [if_neg c8] at H
        have c8b0 : decide (((rd_T44 l0 x3_1).f0) < 1) = false := decide_eq_false c8
        clear c8
        (first | rw [c8b0] | (simp only [i64_w, i32_w]; rw [c8b0]) | skip)
        by_cases c10 : ((rd_T44 l0 x3_1).f0) > 4611686018427387904
        ·rw [if_pos c10] at H
         have c10b0 : decide (4611686018427387904 < ((rd_T44 l0 x3_1).f0)) = true := decide_eq_true c10
         clear c10
         have H' := Aside0.mk H
         clear H
         have hcz11_0 : w6.cell? ⟨gb189, 0, none⟩ = some (.int .i64 0) := (blk_cell BK189.out 0).trans rfl
         have hcz11_1 : w6.cell? ⟨gb189, 1, none⟩ = some (.int .i64 0) := (blk_cell BK189.out 1).trans rfl
         have hcz11_2 : w6.cell? ⟨gb189, 2, none⟩ = some (.slice none 0 0) := (blk_cell BK189.out 2).trans rfl
         have hfz11_0 := blk_frozen BK189.out 0
         have hfz11_1 := blk_frozen BK189.out 1
         have hfz11_2 := blk_frozen BK189.out 2
         go_wp2
         repeat (go_quiet (fail); try go_wp2)
         go_meet
         case rel => exact ⟨_, (true), (by first | rfl | (simp; done) | (simp [*]; done)), H', ⟨by have := HK1.out; first | omega | exact Nat.le_refl _⟩, ⟨by (with_reducible repeat (first | refine blk_drewN ?_ _ | refine blk_drew ?_ | refine blk_alloc ?_ _)); refine blk_put (cs := #[.int .i64 ((rd_T44 l0 x3_1).f0), .int .i64 ((rd_T44 l0 x3_1).f1), .slice none 0 0]) ?_ 2 _ rfl; (with_reducible repeat (first | refine blk_drewN ?_ _ | refine blk_drew ?_ | refine blk_alloc ?_ _)); refine blk_put (cs := #[.int .i64 ((rd_T44 l0 x3_1).f0), .int .i64 0, .slice none 0 0]) ?_ 1 _ rfl; (with_reducible repeat (first | refine blk_drewN ?_ _ | refine blk_drew ?_ | refine blk_alloc ?_ _)); refine blk_put (cs := #[.int .i64 0, .int .i64 0, .slice none 0 0]) ?_ 0 _ rfl; (with_reducible repeat (first | refine blk_drewN ?_ _ | refine blk_drew ?_ | refine blk_alloc ?_ _)); exact BK189.out⟩, ⟨by repeat (first | (with_reducible first | exact HB.out | apply below_alloc | apply pw_below_drewN | apply below_drew1 | refine below_set ?_ GE189.out) | exact HB.out)⟩⟩
        ·rw [if_neg c10] at H
         have c10b0 : decide (4611686018427387904 < ((rd_T44 l0 x3_1).f0)) = false := decide_eq_false c10
         clear c10
         by_cases c12 : x3_1 > 0
         ·rw [if_pos c12] at H
          have c12b0 : decide (0 < x3_1) = true := decide_eq_true c12
          clear c12
          obtain ⟨ji13, hji13⟩ : ∃ j_ : Int, (wrap64 (x3_1 - 1)) = j_ := ⟨_, rfl⟩
          replace H : (if 0 ≤ (ji13) then (if (ji13) < (l0.length : Int) then (if ((rd_T44 l0 x3_1).f0) ≤ ((rd_T44 l0 (ji13)).f0) then (musterref09_Right.j1 k1 l0 x3_1 true ((rd_T44 l0 x3_1).f0) ((rd_T44 l0 x3_1).f1) ((rd_T44 l0 x3_1).f2)) else (if ((rd_T44 l0 x3_1).f1) < 0 then (musterref09_Right.j1 k1 l0 x3_1 true ((rd_T44 l0 x3_1).f0) ((rd_T44 l0 x3_1).f1) ((rd_T44 l0 x3_1).f2)) else (if ((rd_T44 l0 x3_1).f1) > 4611686018427387904 then (musterref09_Right.j1 k1 l0 x3_1 true ((rd_T44 l0 x3_1).f0) ((rd_T44 l0 x3_1).f1) ((rd_T44 l0 x3_1).f2)) else (musterref09_Right.j1 k1 l0 x3_1 (decide ((((rd_T44 l0 x3_1).f2).length : Int) > 8)) ((rd_T44 l0 x3_1).f0) ((rd_T44 l0 x3_1).f1) ((rd_T44 l0 x3_1).f2))))) else (none)) else (none)) = some r := by first | (rw [hji13] at H; exact H) | (simp only [hji13] at H ⊢; exact H)
          have hji13w : (IntKind.i64.wrap (x3_1 - 1)) = ji13 := (i64_w _).trans hji13
          by_cases c14 : 0 ≤ (ji13)
          ·rw [if_pos c14] at H
           have c14b0 : decide (0 ≤ (ji13)) = true := decide_eq_true c14
           clear c14
           by_cases c15 : (ji13) < (l0.length : Int)
           ·rw [if_pos c15] at H
            have c15b0 : decide ((ji13) < (l0.length : Int)) = true := decide_eq_true c15
            clear c15
            by_cases c16 : ((rd_T44 l0 x3_1).f0) ≤ ((rd_T44 l0 (ji13)).f0)
            ·rw [if_pos c16] at H
             have c16b0 : decide (((rd_T44 l0 x3_1).f0) ≤ ((rd_T44 l0 (ji13)).f0)) = true := decide_eq_true c16
             clear c16
             have H' := Aside0.mk H
             clear H
             have hcz17_0 : w6.cell? ⟨gb189, 0, none⟩ = some (.int .i64 0) := (blk_cell BK189.out 0).trans rfl
             have hcz17_1 : w6.cell? ⟨gb189, 1, none⟩ = some (.int .i64 0) := (blk_cell BK189.out 1).trans rfl
             have hcz17_2 : w6.cell? ⟨gb189, 2, none⟩ = some (.slice none 0 0) := (blk_cell BK189.out 2).trans rfl
             have hfz17_0 := blk_frozen BK189.out 0
             have hfz17_1 := blk_frozen BK189.out 1
             have hfz17_2 := blk_frozen BK189.out 2
             have p190 : 0 ≤ ((ji13) : Int) := of_decide_eq_true (by first | (with_reducible assumption) | assumption)
             have q190 : (ji13) < (l0.length : Int) := of_decide_eq_true (by first | (with_reducible assumption) | assumption)
             obtain ⟨ad190, A190_2, c190_2, e190, hx190_0, hx190_1, hx190_2, hl190_2, hi190_2⟩ := at_T44 HR0.out (ji13) p190 q190
             obtain rfl : ad188 = ad190 := (by injection e190)
             have hn190_0 : ad188.block ≠ gb189 := Nat.ne_of_lt (Nat.lt_of_lt_of_le (by have := World.block_lt_of_cell? _ _ hx190_0; first | rwa [add_block] at this | exact this) GW189.out)
             have hn190_1 : ad188.block ≠ gb189 := Nat.ne_of_lt (Nat.lt_of_lt_of_le (by have := World.block_lt_of_cell? _ _ hx190_0; first | rwa [add_block] at this | exact this) GW189.out)
             have hn190_2 : ad188.block ≠ gb189 := Nat.ne_of_lt (Nat.lt_of_lt_of_le (by have := World.block_lt_of_cell? _ _ hx190_0; first | rwa [add_block] at this | exact this) GW189.out)
             replace hx190_0 := (HB.out.cell (World.block_lt_of_cell? w _ hx190_0)).trans hx190_0
             replace hx190_1 := (HB.out.cell (World.block_lt_of_cell? w _ hx190_1)).trans hx190_1
             replace hx190_2 := (HB.out.cell (World.block_lt_of_cell? w _ hx190_2)).trans hx190_2
             have HR190_2 := Aside0.mk hi190_2
             have HC190_2 := Aside0.mk hl190_2
             clear hi190_2 hl190_2
             replace hx190_0 := (cell_far (p := ⟨gb189, 0, none⟩) (by first | (rw [add_block]; exact hn190_0) | (show (Addr.add _ _).block ≠ _; rw [add_block]; exact hn190_0) | exact hn190_0) (.int .i64 ((rd_T44 l0 x3_1).f0))).trans hx190_0
             replace hx190_1 := (cell_far (p := ⟨gb189, 0, none⟩) (by first | (rw [add_block]; exact hn190_0) | (show (Addr.add _ _).block ≠ _; rw [add_block]; exact hn190_0) | exact hn190_0) (.int .i64 ((rd_T44 l0 x3_1).f0))).trans hx190_1
             replace hx190_2 := (cell_far (p := ⟨gb189, 0, none⟩) (by first | (rw [add_block]; exact hn190_0) | (show (Addr.add _ _).block ≠ _; rw [add_block]; exact hn190_0) | exact hn190_0) (.int .i64 ((rd_T44 l0 x3_1).f0))).trans hx190_2
             replace hx190_0 := (cell_far (p := ⟨gb189, 1, none⟩) (by first | (rw [add_block]; exact hn190_1) | (show (Addr.add _ _).block ≠ _; rw [add_block]; exact hn190_1) | exact hn190_1) (.int .i64 ((rd_T44 l0 x3_1).f1))).trans hx190_0
             replace hx190_1 := (cell_far (p := ⟨gb189, 1, none⟩) (by first | (rw [add_block]; exact hn190_1) | (show (Addr.add _ _).block ≠ _; rw [add_block]; exact hn190_1) | exact hn190_1) (.int .i64 ((rd_T44 l0 x3_1).f1))).trans hx190_1
             replace hx190_2 := (cell_far (p := ⟨gb189, 1, none⟩) (by first | (rw [add_block]; exact hn190_1) | (show (Addr.add _ _).block ≠ _; rw [add_block]; exact hn190_1) | exact hn190_1) (.int .i64 ((rd_T44 l0 x3_1).f1))).trans hx190_2
             replace hx190_0 := (cell_far (p := ⟨gb189, 2, none⟩) (by first | (rw [add_block]; exact hn190_2) | (show (Addr.add _ _).block ≠ _; rw [add_block]; exact hn190_2) | exact hn190_2) (.slice A188_2 ((rd_T44 l0 x3_1).f2).length c188_2)).trans hx190_0
             replace hx190_1 := (cell_far (p := ⟨gb189, 2, none⟩) (by first | (rw [add_block]; exact hn190_2) | (show (Addr.add _ _).block ≠ _; rw [add_block]; exact hn190_2) | exact hn190_2) (.slice A188_2 ((rd_T44 l0 x3_1).f2).length c188_2)).trans hx190_1
             replace hx190_2 := (cell_far (p := ⟨gb189, 2, none⟩) (by first | (rw [add_block]; exact hn190_2) | (show (Addr.add _ _).block ≠ _; rw [add_block]; exact hn190_2) | exact hn190_2) (.slice A188_2 ((rd_T44 l0 x3_1).f2).length c188_2)).trans hx190_2
             (try have hy190_0 := fun (n_ : Nat) => (show (((((w6.drewN n_).setCell ⟨gb189, 0, none⟩ (.int .i64 ((rd_T44 l0 x3_1).f0))).setCell ⟨gb189, 1, none⟩ (.int .i64 ((rd_T44 l0 x3_1).f1))).setCell ⟨gb189, 2, none⟩ (.slice A188_2 ((rd_T44 l0 x3_1).f2).length c188_2))).cell? _ = some _ from hx190_0))
             (try have hy190_1 := fun (n_ : Nat) => (show (((((w6.drewN n_).setCell ⟨gb189, 0, none⟩ (.int .i64 ((rd_T44 l0 x3_1).f0))).setCell ⟨gb189, 1, none⟩ (.int .i64 ((rd_T44 l0 x3_1).f1))).setCell ⟨gb189, 2, none⟩ (.slice A188_2 ((rd_T44 l0 x3_1).f2).length c188_2))).cell? _ = some _ from hx190_1))
             (try have hy190_2 := fun (n_ : Nat) => (show (((((w6.drewN n_).setCell ⟨gb189, 0, none⟩ (.int .i64 ((rd_T44 l0 x3_1).f0))).setCell ⟨gb189, 1, none⟩ (.int .i64 ((rd_T44 l0 x3_1).f1))).setCell ⟨gb189, 2, none⟩ (.slice A188_2 ((rd_T44 l0 x3_1).f2).length c188_2))).cell? _ = some _ from hx190_2))
             clear hn190_0
             clear hn190_1
             clear hn190_2
             replace p190 := eq_true p190
             replace q190 := eq_true q190
             go_wp2
             repeat (go_quiet (fail); try go_wp2)
             go_meet
             case rel => exact ⟨_, (true), (by first | rfl | (simp; done) | (simp [*]; done)), H', ⟨by have := HK1.out; first | omega | exact Nat.le_refl _⟩, ⟨by (with_reducible repeat (first | refine blk_drewN ?_ _ | refine blk_drew ?_ | refine blk_alloc ?_ _)); refine blk_put (cs := #[.int .i64 ((rd_T44 l0 x3_1).f0), .int .i64 ((rd_T44 l0 x3_1).f1), .slice none 0 0]) ?_ 2 _ rfl; (with_reducible repeat (first | refine blk_drewN ?_ _ | refine blk_drew ?_ | refine blk_alloc ?_ _)); refine blk_put (cs := #[.int .i64 ((rd_T44 l0 x3_1).f0), .int .i64 0, .slice none 0 0]) ?_ 1 _ rfl; (with_reducible repeat (first | refine blk_drewN ?_ _ | refine blk_drew ?_ | refine blk_alloc ?_ _)); refine blk_put (cs := #[.int .i64 0, .int .i64 0, .slice none 0 0]) ?_ 0 _ rfl; (with_reducible repeat (first | refine blk_drewN ?_ _ | refine blk_drew ?_ | refine blk_alloc ?_ _)); exact BK189.out⟩, ⟨by repeat (first | (with_reducible first | exact HB.out | apply below_alloc | apply pw_below_drewN | apply below_drew1 | refine below_set ?_ GE189.out) | exact HB.out)⟩⟩
            ·rw [if_neg c16] at H
             have c16b0 : decide (((rd_T44 l0 x3_1).f0) ≤ ((rd_T44 l0 (ji13)).f0)) = false := decide_eq_false c16
             clear c16
             by_cases c18 : ((rd_T44 l0 x3_1).f1) < 0
             ·rw [if_pos c18] at H
              have c18b0 : decide (((rd_T44 l0 x3_1).f1) < 0) = true := decide_eq_true c18
              clear c18
              have H' := Aside0.mk H
              clear H
              have hcz19_0 : w6.cell? ⟨gb189, 0, none⟩ = some (.int .i64 0) := (blk_cell BK189.out 0).trans rfl
              have hcz19_1 : w6.cell? ⟨gb189, 1, none⟩ = some (.int .i64 0) := (blk_cell BK189.out 1).trans rfl
              have hcz19_2 : w6.cell? ⟨gb189, 2, none⟩ = some (.slice none 0 0) := (blk_cell BK189.out 2).trans rfl
              have hfz19_0 := blk_frozen BK189.out 0
              have hfz19_1 := blk_frozen BK189.out 1
              have hfz19_2 := blk_frozen BK189.out 2
              have p190 : 0 ≤ ((ji13) : Int) := of_decide_eq_true (by first | (with_reducible assumption) | assumption)
              have q190 : (ji13) < (l0.length : Int) := of_decide_eq_true (by first | (with_reducible assumption) | assumption)
              obtain ⟨ad190, A190_2, c190_2, e190, hx190_0, hx190_1, hx190_2, hl190_2, hi190_2⟩ := at_T44 HR0.out (ji13) p190 q190
              obtain rfl : ad188 = ad190 := (by injection e190)
              have hn190_0 : ad188.block ≠ gb189 := Nat.ne_of_lt (Nat.lt_of_lt_of_le (by have := World.block_lt_of_cell? _ _ hx190_0; first | rwa [add_block] at this | exact this) GW189.out)
              have hn190_1 : ad188.block ≠ gb189 := Nat.ne_of_lt (Nat.lt_of_lt_of_le (by have := World.block_lt_of_cell? _ _ hx190_0; first | rwa [add_block] at this | exact this) GW189.out)
              have hn190_2 : ad188.block ≠ gb189 := Nat.ne_of_lt (Nat.lt_of_lt_of_le (by have := World.block_lt_of_cell? _ _ hx190_0; first | rwa [add_block] at this | exact this) GW189.out)
              replace hx190_0 := (HB.out.cell (World.block_lt_of_cell? w _ hx190_0)).trans hx190_0
              replace hx190_1 := (HB.out.cell (World.block_lt_of_cell? w _ hx190_1)).trans hx190_1
              replace hx190_2 := (HB.out.cell (World.block_lt_of_cell? w _ hx190_2)).trans hx190_2
              have HR190_2 := Aside0.mk hi190_2
              have HC190_2 := Aside0.mk hl190_2
              clear hi190_2 hl190_2
              replace hx190_0 := (cell_far (p := ⟨gb189, 0, none⟩) (by first | (rw [add_block]; exact hn190_0) | (show (Addr.add _ _).block ≠ _; rw [add_block]; exact hn190_0) | exact hn190_0) (.int .i64 ((rd_T44 l0 x3_1).f0))).trans hx190_0
              replace hx190_1 := (cell_far (p := ⟨gb189, 0, none⟩) (by first | (rw [add_block]; exact hn190_0) | (show (Addr.add _ _).block ≠ _; rw [add_block]; exact hn190_0) | exact hn190_0) (.int .i64 ((rd_T44 l0 x3_1).f0))).trans hx190_1
              replace hx190_2 := (cell_far (p := ⟨gb189, 0, none⟩) (by first | (rw [add_block]; exact hn190_0) | (show (Addr.add _ _).block ≠ _; rw [add_block]; exact hn190_0) | exact hn190_0) (.int .i64 ((rd_T44 l0 x3_1).f0))).trans hx190_2
              replace hx190_0 := (cell_far (p := ⟨gb189, 1, none⟩) (by first | (rw [add_block]; exact hn190_1) | (show (Addr.add _ _).block ≠ _; rw [add_block]; exact hn190_1) | exact hn190_1) (.int .i64 ((rd_T44 l0 x3_1).f1))).trans hx190_0
              replace hx190_1 := (cell_far (p := ⟨gb189, 1, none⟩) (by first | (rw [add_block]; exact hn190_1) | (show (Addr.add _ _).block ≠ _; rw [add_block]; exact hn190_1) | exact hn190_1) (.int .i64 ((rd_T44 l0 x3_1).f1))).trans hx190_1
              replace hx190_2 := (cell_far (p := ⟨gb189, 1, none⟩) (by first | (rw [add_block]; exact hn190_1) | (show (Addr.add _ _).block ≠ _; rw [add_block]; exact hn190_1) | exact hn190_1) (.int .i64 ((rd_T44 l0 x3_1).f1))).trans hx190_2
              replace hx190_0 := (cell_far (p := ⟨gb189, 2, none⟩) (by first | (rw [add_block]; exact hn190_2) | (show (Addr.add _ _).block ≠ _; rw [add_block]; exact hn190_2) | exact hn190_2) (.slice A188_2 ((rd_T44 l0 x3_1).f2).length c188_2)).trans hx190_0
              replace hx190_1 := (cell_far (p := ⟨gb189, 2, none⟩) (by first | (rw [add_block]; exact hn190_2) | (show (Addr.add _ _).block ≠ _; rw [add_block]; exact hn190_2) | exact hn190_2) (.slice A188_2 ((rd_T44 l0 x3_1).f2).length c188_2)).trans hx190_1
              replace hx190_2 := (cell_far (p := ⟨gb189, 2, none⟩) (by first | (rw [add_block]; exact hn190_2) | (show (Addr.add _ _).block ≠ _; rw [add_block]; exact hn190_2) | exact hn190_2) (.slice A188_2 ((rd_T44 l0 x3_1).f2).length c188_2)).trans hx190_2
              (try have hy190_0 := fun (n_ : Nat) => (show (((((w6.drewN n_).setCell ⟨gb189, 0, none⟩ (.int .i64 ((rd_T44 l0 x3_1).f0))).setCell ⟨gb189, 1, none⟩ (.int .i64 ((rd_T44 l0 x3_1).f1))).setCell ⟨gb189, 2, none⟩ (.slice A188_2 ((rd_T44 l0 x3_1).f2).length c188_2))).cell? _ = some _ from hx190_0))
              (try have hy190_1 := fun (n_ : Nat) => (show (((((w6.drewN n_).setCell ⟨gb189, 0, none⟩ (.int .i64 ((rd_T44 l0 x3_1).f0))).setCell ⟨gb189, 1, none⟩ (.int .i64 ((rd_T44 l0 x3_1).f1))).setCell ⟨gb189, 2, none⟩ (.slice A188_2 ((rd_T44 l0 x3_1).f2).length c188_2))).cell? _ = some _ from hx190_1))
              (try have hy190_2 := fun (n_ : Nat) => (show (((((w6.drewN n_).setCell ⟨gb189, 0, none⟩ (.int .i64 ((rd_T44 l0 x3_1).f0))).setCell ⟨gb189, 1, none⟩ (.int .i64 ((rd_T44 l0 x3_1).f1))).setCell ⟨gb189, 2, none⟩ (.slice A188_2 ((rd_T44 l0 x3_1).f2).length c188_2))).cell? _ = some _ from hx190_2))
              clear hn190_0
              clear hn190_1
              clear hn190_2
              replace p190 := eq_true p190
              replace q190 := eq_true q190
              go_wp2
              repeat (go_quiet (fail); try go_wp2)
              go_meet
              case rel => exact ⟨_, (true), (by first | rfl | (simp; done) | (simp [*]; done)), H', ⟨by have := HK1.out; first | omega | exact Nat.le_refl _⟩, ⟨by (with_reducible repeat (first | refine blk_drewN ?_ _ | refine blk_drew ?_ | refine blk_alloc ?_ _)); refine blk_put (cs := #[.int .i64 ((rd_T44 l0 x3_1).f0), .int .i64 ((rd_T44 l0 x3_1).f1), .slice none 0 0]) ?_ 2 _ rfl; (with_reducible repeat (first | refine blk_drewN ?_ _ | refine blk_drew ?_ | refine blk_alloc ?_ _)); refine blk_put (cs := #[.int .i64 ((rd_T44 l0 x3_1).f0), .int .i64 0, .slice none 0 0]) ?_ 1 _ rfl; (with_reducible repeat (first | refine blk_drewN ?_ _ | refine blk_drew ?_ | refine blk_alloc ?_ _)); refine blk_put (cs := #[.int .i64 0, .int .i64 0, .slice none 0 0]) ?_ 0 _ rfl; (with_reducible repeat (first | refine blk_drewN ?_ _ | refine blk_drew ?_ | refine blk_alloc ?_ _)); exact BK189.out⟩, ⟨by repeat (first | (with_reducible first | exact HB.out | apply below_alloc | apply pw_below_drewN | apply below_drew1 | refine below_set ?_ GE189.out) | exact HB.out)⟩⟩
             ·rw [if_neg c18] at H
              have c18b0 : decide (((rd_T44 l0 x3_1).f1) < 0) = false := decide_eq_false c18
              clear c18
              by_cases c20 : ((rd_T44 l0 x3_1).f1) > 4611686018427387904
              ·rw [if_pos c20] at H
               have c20b0 : decide (4611686018427387904 < ((rd_T44 l0 x3_1).f1)) = true := decide_eq_true c20
               clear c20
               have H' := Aside0.mk H
               clear H
               have hcz21_0 : w6.cell? ⟨gb189, 0, none⟩ = some (.int .i64 0) := (blk_cell BK189.out 0).trans rfl
               have hcz21_1 : w6.cell? ⟨gb189, 1, none⟩ = some (.int .i64 0) := (blk_cell BK189.out 1).trans rfl
               have hcz21_2 : w6.cell? ⟨gb189, 2, none⟩ = some (.slice none 0 0) := (blk_cell BK189.out 2).trans rfl
               have hfz21_0 := blk_frozen BK189.out 0
               have hfz21_1 := blk_frozen BK189.out 1
               have hfz21_2 := blk_frozen BK189.out 2
               have p190 : 0 ≤ ((ji13) : Int) := of_decide_eq_true (by first | (with_reducible assumption) | assumption)
               have q190 : (ji13) < (l0.length : Int) := of_decide_eq_true (by first | (with_reducible assumption) | assumption)
               obtain ⟨ad190, A190_2, c190_2, e190, hx190_0, hx190_1, hx190_2, hl190_2, hi190_2⟩ := at_T44 HR0.out (ji13) p190 q190
               obtain rfl : ad188 = ad190 := (by injection e190)
               have hn190_0 : ad188.block ≠ gb189 := Nat.ne_of_lt (Nat.lt_of_lt_of_le (by have := World.block_lt_of_cell? _ _ hx190_0; first | rwa [add_block] at this | exact this) GW189.out)
               have hn190_1 : ad188.block ≠ gb189 := Nat.ne_of_lt (Nat.lt_of_lt_of_le (by have := World.block_lt_of_cell? _ _ hx190_0; first | rwa [add_block] at this | exact this) GW189.out)
               have hn190_2 : ad188.block ≠ gb189 := Nat.ne_of_lt (Nat.lt_of_lt_of_le (by have := World.block_lt_of_cell? _ _ hx190_0; first | rwa [add_block] at this | exact this) GW189.out)
               replace hx190_0 := (HB.out.cell (World.block_lt_of_cell? w _ hx190_0)).trans hx190_0
               replace hx190_1 := (HB.out.cell (World.block_lt_of_cell? w _ hx190_1)).trans hx190_1
               replace hx190_2 := (HB.out.cell (World.block_lt_of_cell? w _ hx190_2)).trans hx190_2
               have HR190_2 := Aside0.mk hi190_2
               have HC190_2 := Aside0.mk hl190_2
               clear hi190_2 hl190_2
               replace hx190_0 := (cell_far (p := ⟨gb189, 0, none⟩) (by first | (rw [add_block]; exact hn190_0) | (show (Addr.add _ _).block ≠ _; rw [add_block]; exact hn190_0) | exact hn190_0) (.int .i64 ((rd_T44 l0 x3_1).f0))).trans hx190_0
               replace hx190_1 := (cell_far (p := ⟨gb189, 0, none⟩) (by first | (rw [add_block]; exact hn190_0) | (show (Addr.add _ _).block ≠ _; rw [add_block]; exact hn190_0) | exact hn190_0) (.int .i64 ((rd_T44 l0 x3_1).f0))).trans hx190_1
               replace hx190_2 := (cell_far (p := ⟨gb189, 0, none⟩) (by first | (rw [add_block]; exact hn190_0) | (show (Addr.add _ _).block ≠ _; rw [add_block]; exact hn190_0) | exact hn190_0) (.int .i64 ((rd_T44 l0 x3_1).f0))).trans hx190_2
               replace hx190_0 := (cell_far (p := ⟨gb189, 1, none⟩) (by first | (rw [add_block]; exact hn190_1) | (show (Addr.add _ _).block ≠ _; rw [add_block]; exact hn190_1) | exact hn190_1) (.int .i64 ((rd_T44 l0 x3_1).f1))).trans hx190_0
               replace hx190_1 := (cell_far (p := ⟨gb189, 1, none⟩) (by first | (rw [add_block]; exact hn190_1) | (show (Addr.add _ _).block ≠ _; rw [add_block]; exact hn190_1) | exact hn190_1) (.int .i64 ((rd_T44 l0 x3_1).f1))).trans hx190_1
               replace hx190_2 := (cell_far (p := ⟨gb189, 1, none⟩) (by first | (rw [add_block]; exact hn190_1) | (show (Addr.add _ _).block ≠ _; rw [add_block]; exact hn190_1) | exact hn190_1) (.int .i64 ((rd_T44 l0 x3_1).f1))).trans hx190_2
               replace hx190_0 := (cell_far (p := ⟨gb189, 2, none⟩) (by first | (rw [add_block]; exact hn190_2) | (show (Addr.add _ _).block ≠ _; rw [add_block]; exact hn190_2) | exact hn190_2) (.slice A188_2 ((rd_T44 l0 x3_1).f2).length c188_2)).trans hx190_0
               replace hx190_1 := (cell_far (p := ⟨gb189, 2, none⟩) (by first | (rw [add_block]; exact hn190_2) | (show (Addr.add _ _).block ≠ _; rw [add_block]; exact hn190_2) | exact hn190_2) (.slice A188_2 ((rd_T44 l0 x3_1).f2).length c188_2)).trans hx190_1
               replace hx190_2 := (cell_far (p := ⟨gb189, 2, none⟩) (by first | (rw [add_block]; exact hn190_2) | (show (Addr.add _ _).block ≠ _; rw [add_block]; exact hn190_2) | exact hn190_2) (.slice A188_2 ((rd_T44 l0 x3_1).f2).length c188_2)).trans hx190_2
               (try have hy190_0 := fun (n_ : Nat) => (show (((((w6.drewN n_).setCell ⟨gb189, 0, none⟩ (.int .i64 ((rd_T44 l0 x3_1).f0))).setCell ⟨gb189, 1, none⟩ (.int .i64 ((rd_T44 l0 x3_1).f1))).setCell ⟨gb189, 2, none⟩ (.slice A188_2 ((rd_T44 l0 x3_1).f2).length c188_2))).cell? _ = some _ from hx190_0))
               (try have hy190_1 := fun (n_ : Nat) => (show (((((w6.drewN n_).setCell ⟨gb189, 0, none⟩ (.int .i64 ((rd_T44 l0 x3_1).f0))).setCell ⟨gb189, 1, none⟩ (.int .i64 ((rd_T44 l0 x3_1).f1))).setCell ⟨gb189, 2, none⟩ (.slice A188_2 ((rd_T44 l0 x3_1).f2).length c188_2))).cell? _ = some _ from hx190_1))
               (try have hy190_2 := fun (n_ : Nat) => (show (((((w6.drewN n_).setCell ⟨gb189, 0, none⟩ (.int .i64 ((rd_T44 l0 x3_1).f0))).setCell ⟨gb189, 1, none⟩ (.int .i64 ((rd_T44 l0 x3_1).f1))).setCell ⟨gb189, 2, none⟩ (.slice A188_2 ((rd_T44 l0 x3_1).f2).length c188_2))).cell? _ = some _ from hx190_2))
               clear hn190_0
               clear hn190_1
               clear hn190_2
               replace p190 := eq_true p190
               replace q190 := eq_true q190
               go_wp2
               repeat (go_quiet (fail); try go_wp2)
               go_meet
               case rel => exact ⟨_, (true), (by first | rfl | (simp; done) | (simp [*]; done)), H', ⟨by have := HK1.out; first | omega | exact Nat.le_refl _⟩, ⟨by (with_reducible repeat (first | refine blk_drewN ?_ _ | refine blk_drew ?_ | refine blk_alloc ?_ _)); refine blk_put (cs := #[.int .i64 ((rd_T44 l0 x3_1).f0), .int .i64 ((rd_T44 l0 x3_1).f1), .slice none 0 0]) ?_ 2 _ rfl; (with_reducible repeat (first | refine blk_drewN ?_ _ | refine blk_drew ?_ | refine blk_alloc ?_ _)); refine blk_put (cs := #[.int .i64 ((rd_T44 l0 x3_1).f0), .int .i64 0, .slice none 0 0]) ?_ 1 _ rfl; (with_reducible repeat (first | refine blk_drewN ?_ _ | refine blk_drew ?_ | refine blk_alloc ?_ _)); refine blk_put (cs := #[.int .i64 0, .int .i64 0, .slice none 0 0]) ?_ 0 _ rfl; (with_reducible repeat (first | refine blk_drewN ?_ _ | refine blk_drew ?_ | refine blk_alloc ?_ _)); exact BK189.out⟩, ⟨by repeat (first | (with_reducible first | exact HB.out | apply below_alloc | apply pw_below_drewN | apply below_drew1 | refine below_set ?_ GE189.out) | exact HB.out)⟩⟩
              ·rw [if_neg c20] at H
               have c20b0 : decide (4611686018427387904 < ((rd_T44 l0 x3_1).f1)) = false := decide_eq_false c20
               clear c20
               have H' := Aside0.mk H
               clear H
               have hcz22_0 : w6.cell? ⟨gb189, 0, none⟩ = some (.int .i64 0) := (blk_cell BK189.out 0).trans rfl
               have hcz22_1 : w6.cell? ⟨gb189, 1, none⟩ = some (.int .i64 0) := (blk_cell BK189.out 1).trans rfl
               have hcz22_2 : w6.cell? ⟨gb189, 2, none⟩ = some (.slice none 0 0) := (blk_cell BK189.out 2).trans rfl
               have hfz22_0 := blk_frozen BK189.out 0
               have hfz22_1 := blk_frozen BK189.out 1
               have hfz22_2 := blk_frozen BK189.out 2
               have p190 : 0 ≤ ((ji13) : Int) := of_decide_eq_true (by first | (with_reducible assumption) | assumption)
               have q190 : (ji13) < (l0.length : Int) := of_decide_eq_true (by first | (with_reducible assumption) | assumption)
               obtain ⟨ad190, A190_2, c190_2, e190, hx190_0, hx190_1, hx190_2, hl190_2, hi190_2⟩ := at_T44 HR0.out (ji13) p190 q190
               obtain rfl : ad188 = ad190 := (by injection e190)
               have hn190_0 : ad188.block ≠ gb189 := Nat.ne_of_lt (Nat.lt_of_lt_of_le (by have := World.block_lt_of_cell? _ _ hx190_0; first | rwa [add_block] at this | exact this) GW189.out)
               have hn190_1 : ad188.block ≠ gb189 := Nat.ne_of_lt (Nat.lt_of_lt_of_le (by have := World.block_lt_of_cell? _ _ hx190_0; first | rwa [add_block] at this | exact this) GW189.out)
               have hn190_2 : ad188.block ≠ gb189 := Nat.ne_of_lt (Nat.lt_of_lt_of_le (by have := World.block_lt_of_cell? _ _ hx190_0; first | rwa [add_block] at this | exact this) GW189.out)
               replace hx190_0 := (HB.out.cell (World.block_lt_of_cell? w _ hx190_0)).trans hx190_0
               replace hx190_1 := (HB.out.cell (World.block_lt_of_cell? w _ hx190_1)).trans hx190_1
               replace hx190_2 := (HB.out.cell (World.block_lt_of_cell? w _ hx190_2)).trans hx190_2
               have HR190_2 := Aside0.mk hi190_2
               have HC190_2 := Aside0.mk hl190_2
               clear hi190_2 hl190_2
               replace hx190_0 := (cell_far (p := ⟨gb189, 0, none⟩) (by first | (rw [add_block]; exact hn190_0) | (show (Addr.add _ _).block ≠ _; rw [add_block]; exact hn190_0) | exact hn190_0) (.int .i64 ((rd_T44 l0 x3_1).f0))).trans hx190_0
               replace hx190_1 := (cell_far (p := ⟨gb189, 0, none⟩) (by first | (rw [add_block]; exact hn190_0) | (show (Addr.add _ _).block ≠ _; rw [add_block]; exact hn190_0) | exact hn190_0) (.int .i64 ((rd_T44 l0 x3_1).f0))).trans hx190_1
               replace hx190_2 := (cell_far (p := ⟨gb189, 0, none⟩) (by first | (rw [add_block]; exact hn190_0) | (show (Addr.add _ _).block ≠ _; rw [add_block]; exact hn190_0) | exact hn190_0) (.int .i64 ((rd_T44 l0 x3_1).f0))).trans hx190_2
               replace hx190_0 := (cell_far (p := ⟨gb189, 1, none⟩) (by first | (rw [add_block]; exact hn190_1) | (show (Addr.add _ _).block ≠ _; rw [add_block]; exact hn190_1) | exact hn190_1) (.int .i64 ((rd_T44 l0 x3_1).f1))).trans hx190_0
               replace hx190_1 := (cell_far (p := ⟨gb189, 1, none⟩) (by first | (rw [add_block]; exact hn190_1) | (show (Addr.add _ _).block ≠ _; rw [add_block]; exact hn190_1) | exact hn190_1) (.int .i64 ((rd_T44 l0 x3_1).f1))).trans hx190_1
               replace hx190_2 := (cell_far (p := ⟨gb189, 1, none⟩) (by first | (rw [add_block]; exact hn190_1) | (show (Addr.add _ _).block ≠ _; rw [add_block]; exact hn190_1) | exact hn190_1) (.int .i64 ((rd_T44 l0 x3_1).f1))).trans hx190_2
               replace hx190_0 := (cell_far (p := ⟨gb189, 2, none⟩) (by first | (rw [add_block]; exact hn190_2) | (show (Addr.add _ _).block ≠ _; rw [add_block]; exact hn190_2) | exact hn190_2) (.slice A188_2 ((rd_T44 l0 x3_1).f2).length c188_2)).trans hx190_0
               replace hx190_1 := (cell_far (p := ⟨gb189, 2, none⟩) (by first | (rw [add_block]; exact hn190_2) | (show (Addr.add _ _).block ≠ _; rw [add_block]; exact hn190_2) | exact hn190_2) (.slice A188_2 ((rd_T44 l0 x3_1).f2).length c188_2)).trans hx190_1
               replace hx190_2 := (cell_far (p := ⟨gb189, 2, none⟩) (by first | (rw [add_block]; exact hn190_2) | (show (Addr.add _ _).block ≠ _; rw [add_block]; exact hn190_2) | exact hn190_2) (.slice A188_2 ((rd_T44 l0 x3_1).f2).length c188_2)).trans hx190_2
               (try have hy190_0 := fun (n_ : Nat) => (show (((((w6.drewN n_).setCell ⟨gb189, 0, none⟩ (.int .i64 ((rd_T44 l0 x3_1).f0))).setCell ⟨gb189, 1, none⟩ (.int .i64 ((rd_T44 l0 x3_1).f1))).setCell ⟨gb189, 2, none⟩ (.slice A188_2 ((rd_T44 l0 x3_1).f2).length c188_2))).cell? _ = some _ from hx190_0))
               (try have hy190_1 := fun (n_ : Nat) => (show (((((w6.drewN n_).setCell ⟨gb189, 0, none⟩ (.int .i64 ((rd_T44 l0 x3_1).f0))).setCell ⟨gb189, 1, none⟩ (.int .i64 ((rd_T44 l0 x3_1).f1))).setCell ⟨gb189, 2, none⟩ (.slice A188_2 ((rd_T44 l0 x3_1).f2).length c188_2))).cell? _ = some _ from hx190_1))
               (try have hy190_2 := fun (n_ : Nat) => (show (((((w6.drewN n_).setCell ⟨gb189, 0, none⟩ (.int .i64 ((rd_T44 l0 x3_1).f0))).setCell ⟨gb189, 1, none⟩ (.int .i64 ((rd_T44 l0 x3_1).f1))).setCell ⟨gb189, 2, none⟩ (.slice A188_2 ((rd_T44 l0 x3_1).f2).length c188_2))).cell? _ = some _ from hx190_2))
               clear hn190_0
               clear hn190_1
               clear hn190_2
               replace p190 := eq_true p190
               replace q190 := eq_true q190
               go_wp2
               repeat (go_quiet (fail); try go_wp2)
               go_meet
               case rel => exact ⟨_, (decide ((((rd_T44 l0 x3_1).f2).length : Int) > 8)), (by first | rfl | (simp; done) | (simp [*]; done)), H', ⟨by have := HK1.out; first | omega | exact Nat.le_refl _⟩, ⟨by (with_reducible repeat (first | refine blk_drewN ?_ _ | refine blk_drew ?_ | refine blk_alloc ?_ _)); refine blk_put (cs := #[.int .i64 ((rd_T44 l0 x3_1).f0), .int .i64 ((rd_T44 l0 x3_1).f1), .slice none 0 0]) ?_ 2 _ rfl; (with_reducible repeat (first | refine blk_drewN ?_ _ | refine blk_drew ?_ | refine blk_alloc ?_ _)); refine blk_put (cs := #[.int .i64 ((rd_T44 l0 x3_1).f0), .int .i64 0, .slice none 0 0]) ?_ 1 _ rfl; (with_reducible repeat (first | refine blk_drewN ?_ _ | refine blk_drew ?_ | refine blk_alloc ?_ _)); refine blk_put (cs := #[.int .i64 0, .int .i64 0, .slice none 0 0]) ?_ 0 _ rfl; (with_reducible repeat (first | refine blk_drewN ?_ _ | refine blk_drew ?_ | refine blk_alloc ?_ _)); exact BK189.out⟩, ⟨by repeat (first | (with_reducible first | exact HB.out | apply below_alloc | apply pw_below_drewN | apply below_drew1 | refine below_set ?_ GE189.out) | exact HB.out)⟩⟩
           ·rw [if_neg c15] at H
            exact absurd H (by simp)
          ·rw [if_neg c14] at H
           exact absurd H (by simp)
         ·rw [if_neg c12] at H
          have c12b0 : decide (0 < x3_1) = false := decide_eq_false c12
          clear c12
          by_cases c23 : ((rd_T44 l0 x3_1).f1) < 0
          ·rw [if_pos c23] at H
           have c23b0 : decide (((rd_T44 l0 x3_1).f1) < 0) = true := decide_eq_true c23
           clear c23
           have H' := Aside0.mk H
           clear H
           have hcz24_0 : w6.cell? ⟨gb189, 0, none⟩ = some (.int .i64 0) := (blk_cell BK189.out 0).trans rfl
           have hcz24_1 : w6.cell? ⟨gb189, 1, none⟩ = some (.int .i64 0) := (blk_cell BK189.out 1).trans rfl
           have hcz24_2 : w6.cell? ⟨gb189, 2, none⟩ = some (.slice none 0 0) := (blk_cell BK189.out 2).trans rfl
           have hfz24_0 := blk_frozen BK189.out 0
           have hfz24_1 := blk_frozen BK189.out 1
           have hfz24_2 := blk_frozen BK189.out 2
           go_wp2
           repeat (go_quiet (fail); try go_wp2)
           go_meet
           case rel => exact ⟨_, (true), (by first | rfl | (simp; done) | (simp [*]; done)), H', ⟨by have := HK1.out; first | omega | exact Nat.le_refl _⟩, ⟨by (with_reducible repeat (first | refine blk_drewN ?_ _ | refine blk_drew ?_ | refine blk_alloc ?_ _)); refine blk_put (cs := #[.int .i64 ((rd_T44 l0 x3_1).f0), .int .i64 ((rd_T44 l0 x3_1).f1), .slice none 0 0]) ?_ 2 _ rfl; (with_reducible repeat (first | refine blk_drewN ?_ _ | refine blk_drew ?_ | refine blk_alloc ?_ _)); refine blk_put (cs := #[.int .i64 ((rd_T44 l0 x3_1).f0), .int .i64 0, .slice none 0 0]) ?_ 1 _ rfl; (with_reducible repeat (first | refine blk_drewN ?_ _ | refine blk_drew ?_ | refine blk_alloc ?_ _)); refine blk_put (cs := #[.int .i64 0, .int .i64 0, .slice none 0 0]) ?_ 0 _ rfl; (with_reducible repeat (first | refine blk_drewN ?_ _ | refine blk_drew ?_ | refine blk_alloc ?_ _)); exact BK189.out⟩, ⟨by repeat (first | (with_reducible first | exact HB.out | apply below_alloc | apply pw_below_drewN | apply below_drew1 | refine below_set ?_ GE189.out) | exact HB.out)⟩⟩
          ·rw [if_neg c23] at H
           have c23b0 : decide (((rd_T44 l0 x3_1).f1) < 0) = false := decide_eq_false c23
           clear c23
           by_cases c25 : ((rd_T44 l0 x3_1).f1) > 4611686018427387904
           ·rw [if_pos c25] at H
            have c25b0 : decide (4611686018427387904 < ((rd_T44 l0 x3_1).f1)) = true := decide_eq_true c25
            clear c25
            have H' := Aside0.mk H
            clear H
            have hcz26_0 : w6.cell? ⟨gb189, 0, none⟩ = some (.int .i64 0) := (blk_cell BK189.out 0).trans rfl
            have hcz26_1 : w6.cell? ⟨gb189, 1, none⟩ = some (.int .i64 0) := (blk_cell BK189.out 1).trans rfl
            have hcz26_2 : w6.cell? ⟨gb189, 2, none⟩ = some (.slice none 0 0) := (blk_cell BK189.out 2).trans rfl
            have hfz26_0 := blk_frozen BK189.out 0
            have hfz26_1 := blk_frozen BK189.out 1
            have hfz26_2 := blk_frozen BK189.out 2
            go_wp2
            repeat (go_quiet (fail); try go_wp2)
            go_meet
            case rel => exact ⟨_, (true), (by first | rfl | (simp; done) | (simp [*]; done)), H', ⟨by have := HK1.out; first | omega | exact Nat.le_refl _⟩, ⟨by (with_reducible repeat (first | refine blk_drewN ?_ _ | refine blk_drew ?_ | refine blk_alloc ?_ _)); refine blk_put (cs := #[.int .i64 ((rd_T44 l0 x3_1).f0), .int .i64 ((rd_T44 l0 x3_1).f1), .slice none 0 0]) ?_ 2 _ rfl; (with_reducible repeat (first | refine blk_drewN ?_ _ | refine blk_drew ?_ | refine blk_alloc ?_ _)); refine blk_put (cs := #[.int .i64 ((rd_T44 l0 x3_1).f0), .int .i64 0, .slice none 0 0]) ?_ 1 _ rfl; (with_reducible repeat (first | refine blk_drewN ?_ _ | refine blk_drew ?_ | refine blk_alloc ?_ _)); refine blk_put (cs := #[.int .i64 0, .int .i64 0, .slice none 0 0]) ?_ 0 _ rfl; (with_reducible repeat (first | refine blk_drewN ?_ _ | refine blk_drew ?_ | refine blk_alloc ?_ _)); exact BK189.out⟩, ⟨by repeat (first | (with_reducible first | exact HB.out | apply below_alloc | apply pw_below_drewN | apply below_drew1 | refine below_set ?_ GE189.out) | exact HB.out)⟩⟩
           ·rw [if_neg c25] at H
            have c25b0 : decide (4611686018427387904 < ((rd_T44 l0 x3_1).f1)) = false := decide_eq_false c25
            clear c25
            have H' := Aside0.mk H
            clear H
            have hcz27_0 : w6.cell? ⟨gb189, 0, none⟩ = some (.int .i64 0) := (blk_cell BK189.out 0).trans rfl
            have hcz27_1 : w6.cell? ⟨gb189, 1, none⟩ = some (.int .i64 0) := (blk_cell BK189.out 1).trans rfl
            have hcz27_2 : w6.cell? ⟨gb189, 2, none⟩ = some (.slice none 0 0) := (blk_cell BK189.out 2).trans rfl
            have hfz27_0 := blk_frozen BK189.out 0
            have hfz27_1 := blk_frozen BK189.out 1
            have hfz27_2 := blk_frozen BK189.out 2
            go_wp2
            repeat (go_quiet (fail); try go_wp2)
            go_meet
            case rel => exact ⟨_, (decide ((((rd_T44 l0 x3_1).f2).length : Int) > 8)), (by first | rfl | (simp; done) | (simp [*]; done)), H', ⟨by have := HK1.out; first | omega | exact Nat.le_refl _⟩, ⟨by (with_reducible repeat (first | refine blk_drewN ?_ _ | refine blk_drew ?_ | refine blk_alloc ?_ _)); refine blk_put (cs := #[.int .i64 ((rd_T44 l0 x3_1).f0), .int .i64 ((rd_T44 l0 x3_1).f1), .slice none 0 0]) ?_ 2 _ rfl; (with_reducible repeat (first | refine blk_drewN ?_ _ | refine blk_drew ?_ | refine blk_alloc ?_ _)); refine blk_put (cs := #[.int .i64 ((rd_T44 l0 x3_1).f0), .int .i64 0, .slice none 0 0]) ?_ 1 _ rfl; (with_reducible repeat (first | refine blk_drewN ?_ _ | refine blk_drew ?_ | refine blk_alloc ?_ _)); refine blk_put (cs := #[.int .i64 0, .int .i64 0, .slice none 0 0]) ?_ 0 _ rfl; (with_reducible repeat (first | refine blk_drewN ?_ _ | refine blk_drew ?_ | refine blk_alloc ?_ _)); exact BK189.out⟩, ⟨by repeat (first | (with_reducible first | exact HB.out | apply below_alloc | apply pw_below_drewN | apply below_drew1 | refine below_set ?_ GE189.out) | exact HB.out)⟩⟩
      case rest =>
       clear HC5
       try clear c1
       try clear p1
       try clear q1
       try clear hx1
       try clear c2
       try clear c2b0
       try clear c2b1
       try clear p2
       try clear c3
       try clear c3b0
       try clear c4
       try clear c4b0
       try clear p6
       try clear c8
       try clear c8b0
       try clear c10
       try clear c10b0
       try clear c12
       try clear c12b0
       try clear c14
       try clear c14b0
       try clear c15
       try clear c15b0
       try clear c16
       try clear c16b0
       try clear c18
       try clear c18b0
       try clear p18
       try clear q18
       try clear hx18
       try clear c19
       try clear p19
       try clear q19
       try clear hx19
       try clear c20
       try clear c20b0
       try clear c23
       try clear c23b0
       try clear c25
       try clear c25b0
       try clear hcz11_0
       try clear hcz11_1
       try clear hcz11_2
       try clear hcz17_0
       try clear hcz17_1
       try clear hcz17_2
       try clear hcz19_0
       try clear hcz19_1
       try clear hcz19_2
       try clear hcz21_0
       try clear hcz21_1
       try clear hcz21_2
       try clear hcz22_0
       try clear hcz22_1
       try clear hcz22_2
       try clear hcz24_0
       try clear hcz24_1
       try clear hcz24_2
       try clear hcz26_0
       try clear hcz26_1
       try clear hcz26_2
       try clear hcz27_0
       try clear hcz27_1
       try clear hcz27_2
       try clear hcz7_0
       try clear hcz7_1
       try clear hcz7_2
       try clear hcz9_0
       try clear hcz9_1
       try clear hcz9_2
       try clear hfz11_0
       try clear hfz11_1
       try clear hfz11_2
       try clear hfz17_0
       try clear hfz17_1
       try clear hfz17_2
       try clear hfz19_0
       try clear hfz19_1
       try clear hfz19_2
       try clear hfz21_0
       try clear hfz21_1
       try clear hfz21_2
       try clear hfz22_0
       try clear hfz22_1
       try clear hfz22_2
       try clear hfz24_0
       try clear hfz24_1
       try clear hfz24_2
       try clear hfz26_0
       try clear hfz26_1
       try clear hfz26_2
       try clear hfz27_0
       try clear hfz27_1
       try clear hfz27_2
       try clear hfz7_0
       try clear hfz7_1
       try clear hfz7_2
       try clear hfz9_0
       try clear hfz9_1
       try clear hfz9_2
       try clear hx188_0
       try clear hx188_1
       try clear hx188_2
       try clear hx190_0
       try clear hx190_1
       try clear hx190_2
       try clear p188
       try clear p190
       try clear p2
       try clear q188
       try clear q190
       obtain ⟨kq, x58_4, rfl, HA, HJ4, BK189, HB⟩ := hcut
       cases kq with
       | zero => exact absurd HA.out (by simp [musterref09_Right.j1])
       | succ kj4 =>
        have H := HA.out
        clear HA
        simp only [musterref09_Right.j1] at H
        by_cases c28 : x58_4 = true
        ·subst c28
         have H1 : (some false) = some r := by rw [if_pos rfl] at H; exact H
         clear H
         have H := H1
         clear H1
         obtain rfl := Option.some.inj H
         go_wp2
         repeat (go_quiet (fail); try go_wp2)
         go_ret
         exact ⟨by first | rfl | (simp [errW_none, errW_some] <;> rfl) | (simp [*, errW_none, errW_some] <;> rfl), by repeat (first | (with_reducible first | exact HB.out | apply below_alloc | apply pw_below_drewN | apply below_drew1 | refine below_set ?_ GE189.out) | exact HB.out)⟩
        ·replace c28 := Bool.eq_false_iff.mpr c28
         subst c28
         have H1 : (musterref09_Right.l1 kj4 l0 x3_1 ((rd_T44 l0 x3_1).f1) 0 ((rd_T44 l0 x3_1).f0) ((rd_T44 l0 x3_1).f1) ((rd_T44 l0 x3_1).f2)) = some r := by rw [if_neg (show ¬ (false = true) by decide)] at H; exact H
         clear H
         have H := H1
         clear H1
         have H' := Aside0.mk H
         clear H
         have hcz29_0 : wc.cell? ⟨gb189, 0, none⟩ = some (.int .i64 ((rd_T44 l0 x3_1).f0)) := (blk_cell BK189.out 0).trans rfl
         have hcz29_1 : wc.cell? ⟨gb189, 1, none⟩ = some (.int .i64 ((rd_T44 l0 x3_1).f1)) := (blk_cell BK189.out 1).trans rfl
         have hcz29_2 : wc.cell? ⟨gb189, 2, none⟩ = some (.slice A188_2 ((rd_T44 l0 x3_1).f2).length c188_2) := (blk_cell BK189.out 2).trans rfl
         have hfz29_0 := blk_frozen BK189.out 0
         have hfz29_1 := blk_frozen BK189.out 1
         have hfz29_2 := blk_frozen BK189.out 2
         go_wp2
         repeat (go_quiet (fail); try go_wp2)
         go_loopg [5, 6] kj4 (fun kq v5 v6 w' => ∃ (x5_3 : Int) (x6_3 : Int), v5 = .int .i64 x5_3 ∧ v6 = .int .i64 x6_3 ∧ Aside0 (musterref09_Right.l1 kq l0 x3_1 x5_3 x6_3 ((rd_T44 l0 x3_1).f0) ((rd_T44 l0 x3_1).f1) ((rd_T44 l0 x3_1).f2) = some r) ∧ Aside0 (kq ≤ kj4) ∧ Aside0 (w'.heap[gb189]? = some (.cells #[.int .i64 ((rd_T44 l0 x3_1).f0), .int .i64 ((rd_T44 l0 x3_1).f1), (.slice A188_2 ((rd_T44 l0 x3_1).f2).length c188_2)] 44 (0, 0))) ∧ Aside0 (Below w.heap.size w w'))
         case atStart => exact ⟨(((rd_T44 l0 x3_1).f1)), (0), (by first | rfl | (simp; done) | (simp [*]; done)), (by first | rfl | (simp; done) | (simp [*]; done)), H', ⟨Nat.le_refl _⟩, ⟨by (with_reducible repeat (first | refine blk_drewN ?_ _ | refine blk_drew ?_ | refine blk_alloc ?_ _)); exact BK189.out⟩, ⟨by repeat (first | (with_reducible first | exact HB.out | apply below_alloc | apply pw_below_drewN | apply below_drew1 | refine below_set ?_ GE189.out) | exact HB.out)⟩⟩
         case round =>
          clear H'
          try clear c1
          try clear p1
          try clear q1
          try clear hx1
          try clear c2
          try clear c2b0
          try clear c2b1
          try clear p2
          try clear c3
          try clear c3b0
          try clear c4
          try clear c4b0
          try clear p6
          try clear c8
          try clear c8b0
          try clear c10
          try clear c10b0
          try clear c12
          try clear c12b0
          try clear c14
          try clear c14b0
          try clear c15
          try clear c15b0
          try clear c16
          try clear c16b0
          try clear c18
          try clear c18b0
          try clear p18
          try clear q18
          try clear hx18
          try clear c19
          try clear p19
          try clear q19
          try clear hx19
          try clear c20
          try clear c20b0
          try clear c23
          try clear c23b0
          try clear c25
          try clear c25b0
          try clear c28
          try clear hcz11_0
          try clear hcz11_1
          try clear hcz11_2
          try clear hcz17_0
          try clear hcz17_1
          try clear hcz17_2
          try clear hcz19_0
          try clear hcz19_1
          try clear hcz19_2
          try clear hcz21_0
          try clear hcz21_1
          try clear hcz21_2
          try clear hcz22_0
          try clear hcz22_1
          try clear hcz22_2
          try clear hcz24_0
          try clear hcz24_1
          try clear hcz24_2
          try clear hcz26_0
          try clear hcz26_1
          try clear hcz26_2
          try clear hcz27_0
          try clear hcz27_1
          try clear hcz27_2
          try clear hcz29_0
          try clear hcz29_1
          try clear hcz29_2
          try clear hcz7_0
          try clear hcz7_1
          try clear hcz7_2
          try clear hcz9_0
          try clear hcz9_1
          try clear hcz9_2
          try clear hfz11_0
          try clear hfz11_1
          try clear hfz11_2
          try clear hfz17_0
          try clear hfz17_1
          try clear hfz17_2
          try clear hfz19_0
          try clear hfz19_1
          try clear hfz19_2
          try clear hfz21_0
          try clear hfz21_1
          try clear hfz21_2
          try clear hfz22_0
          try clear hfz22_1
          try clear hfz22_2
          try clear hfz24_0
          try clear hfz24_1
          try clear hfz24_2
          try clear hfz26_0
          try clear hfz26_1
          try clear hfz26_2
          try clear hfz27_0
          try clear hfz27_1
          try clear hfz27_2
          try clear hfz29_0
          try clear hfz29_1
          try clear hfz29_2
          try clear hfz7_0
          try clear hfz7_1
          try clear hfz7_2
          try clear hfz9_0
          try clear hfz9_1
          try clear hfz9_2
          try clear hx188_0
          try clear hx188_1
          try clear hx188_2
          try clear hx190_0
          try clear hx190_1
          try clear hx190_2
          try clear p1
          try clear p18
          try clear p188
          try clear p19
          try clear p190
          try clear p2
          try clear p6
          try clear q1
          try clear q18
          try clear q188
          try clear q19
          try clear q190
          obtain ⟨x5_3, x6_3, rfl, rfl, HA, HK3, BK189, HB⟩ := hrel
          cases gk with
          | zero => exact absurd HA.out (by simp [musterref09_Right.l1])
          | succ k3 =>
           have H := HA.out
           clear HA
           simp only [musterref09_Right.l1] at H
           by_cases c30 : x6_3 < (((rd_T44 l0 x3_1).f2).length : Int)
           ·rw [if_pos c30] at H
            have c30b0 : decide (x6_3 < (((rd_T44 l0 x3_1).f2).length : Int)) = true := decide_eq_true c30
            clear c30
            by_cases c31 : 0 ≤ x6_3
            ·rw [if_pos c31] at H
             have c31b0 : decide (0 ≤ x6_3) = true := decide_eq_true c31
             clear c31
             by_cases c32 : ((rd_T46 ((rd_T44 l0 x3_1).f2) x6_3).f0) ≤ x5_3
             ·rw [if_pos c32] at H
              have c32b0 : decide (((rd_T46 ((rd_T44 l0 x3_1).f2) x6_3).f0) ≤ x5_3) = true := decide_eq_true c32
              clear c32
              obtain rfl := Option.some.inj H
              have hcz33_0 : wr.cell? ⟨gb189, 0, none⟩ = some (.int .i64 ((rd_T44 l0 x3_1).f0)) := (blk_cell BK189.out 0).trans rfl
              have hcz33_1 : wr.cell? ⟨gb189, 1, none⟩ = some (.int .i64 ((rd_T44 l0 x3_1).f1)) := (blk_cell BK189.out 1).trans rfl
              have hcz33_2 : wr.cell? ⟨gb189, 2, none⟩ = some (.slice A188_2 ((rd_T44 l0 x3_1).f2).length c188_2) := (blk_cell BK189.out 2).trans rfl
              have hfz33_0 := blk_frozen BK189.out 0
              have hfz33_1 := blk_frozen BK189.out 1
              have hfz33_2 := blk_frozen BK189.out 2
              have p191 : 0 ≤ (x6_3 : Int) := of_decide_eq_true (by first | (with_reducible assumption) | assumption)
              have q191 : x6_3 < (((rd_T44 l0 x3_1).f2).length : Int) := of_decide_eq_true (by first | (with_reducible assumption) | assumption)
              obtain ⟨ad191, A191_1, c191_1, e191, hx191_0, hx191_1, hl191_1, hi191_1⟩ := at_T46 HR188_2.out x6_3 p191 q191
              cases e191
              replace hx191_0 := (HB.out.cell (World.block_lt_of_cell? w _ hx191_0)).trans hx191_0
              replace hx191_1 := (HB.out.cell (World.block_lt_of_cell? w _ hx191_1)).trans hx191_1
              have HR191_1 := Aside0.mk hi191_1
              have HC191_1 := Aside0.mk hl191_1
              clear hi191_1 hl191_1
              replace p191 := eq_true p191
              replace q191 := eq_true q191
              go_wp2
              repeat (go_quiet (fail); try go_wp2)
              go_ret
              exact ⟨by first | rfl | (simp [errW_none, errW_some] <;> rfl) | (simp [*, errW_none, errW_some] <;> rfl), by repeat (first | (with_reducible first | exact HB.out | apply below_alloc | apply pw_below_drewN | apply below_drew1 | refine below_set ?_ GE189.out) | exact HB.out)⟩
             ·rw [if_neg c32] at H
              have c32b0 : decide (((rd_T46 ((rd_T44 l0 x3_1).f2) x6_3).f0) ≤ x5_3) = false := decide_eq_false c32
              clear c32
              by_cases c34 : ((rd_T46 ((rd_T44 l0 x3_1).f2) x6_3).f0) > 4611686018427387904
              ·rw [if_pos c34] at H
               have c34b0 : decide (4611686018427387904 < ((rd_T46 ((rd_T44 l0 x3_1).f2) x6_3).f0)) = true := decide_eq_true c34
               clear c34
               obtain rfl := Option.some.inj H
               have hcz35_0 : wr.cell? ⟨gb189, 0, none⟩ = some (.int .i64 ((rd_T44 l0 x3_1).f0)) := (blk_cell BK189.out 0).trans rfl
               have hcz35_1 : wr.cell? ⟨gb189, 1, none⟩ = some (.int .i64 ((rd_T44 l0 x3_1).f1)) := (blk_cell BK189.out 1).trans rfl
               have hcz35_2 : wr.cell? ⟨gb189, 2, none⟩ = some (.slice A188_2 ((rd_T44 l0 x3_1).f2).length c188_2) := (blk_cell BK189.out 2).trans rfl
               have hfz35_0 := blk_frozen BK189.out 0
               have hfz35_1 := blk_frozen BK189.out 1
               have hfz35_2 := blk_frozen BK189.out 2
               have p191 : 0 ≤ (x6_3 : Int) := of_decide_eq_true (by first | (with_reducible assumption) | assumption)
               have q191 : x6_3 < (((rd_T44 l0 x3_1).f2).length : Int) := of_decide_eq_true (by first | (with_reducible assumption) | assumption)
               obtain ⟨ad191, A191_1, c191_1, e191, hx191_0, hx191_1, hl191_1, hi191_1⟩ := at_T46 HR188_2.out x6_3 p191 q191
               cases e191
               replace hx191_0 := (HB.out.cell (World.block_lt_of_cell? w _ hx191_0)).trans hx191_0
               replace hx191_1 := (HB.out.cell (World.block_lt_of_cell? w _ hx191_1)).trans hx191_1
               have HR191_1 := Aside0.mk hi191_1
               have HC191_1 := Aside0.mk hl191_1
               clear hi191_1 hl191_1
               replace p191 := eq_true p191
               replace q191 := eq_true q191
               have p192 : 0 ≤ (x6_3 : Int) := of_decide_eq_true (by first | (with_reducible assumption) | assumption)
               have q192 : x6_3 < (((rd_T44 l0 x3_1).f2).length : Int) := of_decide_eq_true (by first | (with_reducible assumption) | assumption)
               obtain ⟨ad192, A192_1, c192_1, e192, hx192_0, hx192_1, hl192_1, hi192_1⟩ := at_T46 HR188_2.out x6_3 p192 q192
               obtain rfl : ad191 = ad192 := (by injection e192)
               replace hx192_0 := (HB.out.cell (World.block_lt_of_cell? w _ hx192_0)).trans hx192_0
               replace hx192_1 := (HB.out.cell (World.block_lt_of_cell? w _ hx192_1)).trans hx192_1
               have HR192_1 := Aside0.mk hi192_1
               have HC192_1 := Aside0.mk hl192_1
               clear hi192_1 hl192_1
               replace p192 := eq_true p192
               replace q192 := eq_true q192
               have ea_ := Option.some.inj (hx191_1.symm.trans hx192_1)
               injection ea_ with ea_ en_ ec_
               subst ea_
               subst ec_
               clear en_
               go_wp2
               repeat (go_quiet (fail); try go_wp2)
               go_ret
               exact ⟨by first | rfl | (simp [errW_none, errW_some] <;> rfl) | (simp [*, errW_none, errW_some] <;> rfl), by repeat (first | (with_reducible first | exact HB.out | apply below_alloc | apply pw_below_drewN | apply below_drew1 | refine below_set ?_ GE189.out) | exact HB.out)⟩
              ·rw [if_neg c34] at H
               have c34b0 : decide (4611686018427387904 < ((rd_T46 ((rd_T44 l0 x3_1).f2) x6_3).f0)) = false := decide_eq_false c34
               clear c34
               have H' := Aside0.mk H
               clear H
               have hcz36_0 : wr.cell? ⟨gb189, 0, none⟩ = some (.int .i64 ((rd_T44 l0 x3_1).f0)) := (blk_cell BK189.out 0).trans rfl
               have hcz36_1 : wr.cell? ⟨gb189, 1, none⟩ = some (.int .i64 ((rd_T44 l0 x3_1).f1)) := (blk_cell BK189.out 1).trans rfl
               have hcz36_2 : wr.cell? ⟨gb189, 2, none⟩ = some (.slice A188_2 ((rd_T44 l0 x3_1).f2).length c188_2) := (blk_cell BK189.out 2).trans rfl
               have hfz36_0 := blk_frozen BK189.out 0
               have hfz36_1 := blk_frozen BK189.out 1
               have hfz36_2 := blk_frozen BK189.out 2
               have p191 : 0 ≤ (x6_3 : Int) := of_decide_eq_true (by first | (with_reducible assumption) | assumption)
               have q191 : x6_3 < (((rd_T44 l0 x3_1).f2).length : Int) := of_decide_eq_true (by first | (with_reducible assumption) | assumption)
               obtain ⟨ad191, A191_1, c191_1, e191, hx191_0, hx191_1, hl191_1, hi191_1⟩ := at_T46 HR188_2.out x6_3 p191 q191
               cases e191
               replace hx191_0 := (HB.out.cell (World.block_lt_of_cell? w _ hx191_0)).trans hx191_0
               replace hx191_1 := (HB.out.cell (World.block_lt_of_cell? w _ hx191_1)).trans hx191_1
               have HR191_1 := Aside0.mk hi191_1
               have HC191_1 := Aside0.mk hl191_1
               clear hi191_1 hl191_1
               replace p191 := eq_true p191
               replace q191 := eq_true q191
               have p192 : 0 ≤ (x6_3 : Int) := of_decide_eq_true (by first | (with_reducible assumption) | assumption)
               have q192 : x6_3 < (((rd_T44 l0 x3_1).f2).length : Int) := of_decide_eq_true (by first | (with_reducible assumption) | assumption)
               obtain ⟨ad192, A192_1, c192_1, e192, hx192_0, hx192_1, hl192_1, hi192_1⟩ := at_T46 HR188_2.out x6_3 p192 q192
               obtain rfl : ad191 = ad192 := (by injection e192)
               replace hx192_0 := (HB.out.cell (World.block_lt_of_cell? w _ hx192_0)).trans hx192_0
               replace hx192_1 := (HB.out.cell (World.block_lt_of_cell? w _ hx192_1)).trans hx192_1
               have HR192_1 := Aside0.mk hi192_1
               have HC192_1 := Aside0.mk hl192_1
               clear hi192_1 hl192_1
               replace p192 := eq_true p192
               replace q192 := eq_true q192
               have ea_ := Option.some.inj (hx191_1.symm.trans hx192_1)
               injection ea_ with ea_ en_ ec_
               subst ea_
               subst ec_
               clear en_
               have p193 : 0 ≤ (x6_3 : Int) := of_decide_eq_true (by first | (with_reducible assumption) | assumption)
               have q193 : x6_3 < (((rd_T44 l0 x3_1).f2).length : Int) := of_decide_eq_true (by first | (with_reducible assumption) | assumption)
               obtain ⟨ad193, A193_1, c193_1, e193, hx193_0, hx193_1, hl193_1, hi193_1⟩ := at_T46 HR188_2.out x6_3 p193 q193
               obtain rfl : ad191 = ad193 := (by injection e193)
               replace hx193_0 := (HB.out.cell (World.block_lt_of_cell? w _ hx193_0)).trans hx193_0
               replace hx193_1 := (HB.out.cell (World.block_lt_of_cell? w _ hx193_1)).trans hx193_1
               have HR193_1 := Aside0.mk hi193_1
               have HC193_1 := Aside0.mk hl193_1
               clear hi193_1 hl193_1
               replace p193 := eq_true p193
               replace q193 := eq_true q193
               have ea_ := Option.some.inj (hx191_1.symm.trans hx193_1)
               injection ea_ with ea_ en_ ec_
               subst ea_
               subst ec_
               clear en_
               go_wp2
               repeat (go_quiet (fail); try go_wp2)
               go_roundg k3
               case measure => have := HK1.out; have := HJ4.out; have := HK3.out; omega
               case rel => exact ⟨((rd_T46 ((rd_T44 l0 x3_1).f2) x6_3).f0), (wrap64 (x6_3 + 1)), (by first | rfl | (simp; done) | (simp [*]; done)), (by first | rfl | (simp; done) | (simp [*]; done)), H', ⟨by have := HK1.out; have := HJ4.out; have := HK3.out; omega⟩, ⟨by (with_reducible repeat (first | refine blk_drewN ?_ _ | refine blk_drew ?_ | refine blk_alloc ?_ _)); exact BK189.out⟩, ⟨by repeat (first | (with_reducible first | exact HB.out | apply below_alloc | apply pw_below_drewN | apply below_drew1 | refine below_set ?_ GE189.out) | exact HB.out)⟩⟩
            ·rw [if_neg c31] at H
             exact absurd H (by simp)
           ·rw [if_neg c30] at H
            have c30b0 : decide (x6_3 < (((rd_T44 l0 x3_1).f2).length : Int)) = false := decide_eq_false c30
            clear c30
            have H' := Aside0.mk H
            clear H
            have hcz37_0 : wr.cell? ⟨gb189, 0, none⟩ = some (.int .i64 ((rd_T44 l0 x3_1).f0)) := (blk_cell BK189.out 0).trans rfl
            have hcz37_1 : wr.cell? ⟨gb189, 1, none⟩ = some (.int .i64 ((rd_T44 l0 x3_1).f1)) := (blk_cell BK189.out 1).trans rfl
            have hcz37_2 : wr.cell? ⟨gb189, 2, none⟩ = some (.slice A188_2 ((rd_T44 l0 x3_1).f2).length c188_2) := (blk_cell BK189.out 2).trans rfl
            have hfz37_0 := blk_frozen BK189.out 0
            have hfz37_1 := blk_frozen BK189.out 1
            have hfz37_2 := blk_frozen BK189.out 2
            go_wp2
            repeat (go_quiet (fail); try go_wp2)
            go_roundg k3
            case measure => have := HK1.out; have := HJ4.out; have := HK3.out; omega
            case rel => exact ⟨(wrap64 (x3_1 + 1)), (by first | rfl | (simp; done) | (simp [*]; done)), H', ⟨by have := HK1.out; have := HJ4.out; have := HK3.out; omega⟩, ⟨by repeat (first | (with_reducible first | exact HB.out | apply below_alloc | apply pw_below_drewN | apply below_drew1 | refine below_set ?_ GE189.out) | exact HB.out)⟩⟩
     ·rw [if_neg c4] at H
      exact absurd H (by simp)
    ·rw [if_neg c3] at H
     have c3b0 : decide (x3_1 < (l0.length : Int)) = false := decide_eq_false c3
     clear c3
     obtain rfl := Option.some.inj H
     go_wp2
     repeat (go_quiet (fail); try go_wp2)
     go_ret
     exact ⟨by first | rfl | (simp [errW_none, errW_some] <;> rfl) | (simp [*, errW_none, errW_some] <;> rfl), by repeat (first | (with_reducible first | exact HB.out | apply below_alloc | apply pw_below_drewN | apply below_drew1) | exact HB.out)⟩

end Go.Proofs.Ytafnjlgdjhegaaa.Pr
