-- MINIFIED by wip/tools/minify.py
-- Written by this session's program wip/tools/pr.py out of the translation (with the kit's print.py). Not trusted: Lean checks it.
import Derived.Test.YthlbdbaanlehhaaDoorPr0
import Derived.Test.YthlbdbaanlehhaaDoorPr23
namespace Go.Proofs.YthlbdbaanlehhaaDoor.Pr
open Go.RowKit Go.Proofs.YthlbdbaanlehhaaDoorW.PrintWords Go.Proofs.YthlbdbaanlehhaaDoorW.PrintLast Go.Proofs.YthlbdbaanlehhaaDoorW.PrintMore
attribute [local go_sem] max2_int min2_int max_two min_two max_three min_three max_four min_four   -- for this text's walks alone
set_option linter.unusedVariables false
set_option linter.unusedSimpArgs false

abbrev kPr240 : Array Bool := #[true, true, true, true, true, true, true, true, true, true, true, true, true, true, true, true, true, true, true]
abbrev kPr241 : Array Bool := #[true, true, true, true, true, true, true, true, true, true, true, true, true, true, true, true, true, true, false]
abbrev kPr242 : Array Bool := #[true, true, true, true, true, true, true, true, true, true, true, true, true, true, true, true, true, false, false]
abbrev kPr243 : Array Bool := #[true, true, true, true, true, true, true, true, true, true, true, true, true, true, true, true, false, false, false]
abbrev kPr244 : Array Bool := #[true, true, true, true, true, true, true, true, true, true, true, true, true, true, true, false, false, false, false]
abbrev kPr245 : Array Bool := #[true, true, true, true, true, true, true, true, true, true, true, true, true, true, false, false, false, false, false]
abbrev kPr246 : Array Bool := #[true, true, true, true, true, true, true, true, true, true, true, true, true, false, false, false, false, false, false]
abbrev kPr247 : Array Bool := #[true, true, true, true, true, true, true, true, true, true, true, true, false, false, false, false, false, false, false]
abbrev kPr248 : Array Bool := #[true, true, true, true, true, true, true, true, true, true, true, false, false, false, false, false, false, false, false]
abbrev kPr249 : Array Bool := #[true, true, true, true, true, true, true, false, true, true, true, false, false, false, false, false, false, false, false]
abbrev kPr2410 : Array Bool := #[true, true, true, true, true, true, false, false, true, true, true, false, false, false, false, false, false, false, false]
abbrev kPr2411 : Array Bool := #[true, true, true, true, true, false, false, false, true, true, true, false, false, false, false, false, false, false, false]
abbrev kPr2412 : Array Bool := #[true, true, true, true, false, false, false, false, true, true, true, false, false, false, false, false, false, false, false]
abbrev kPr2413 : Array Bool := #[true, true, true, true, false, false, false, false, true, true, false, false, false, false, false, false, false, false, false]
abbrev kPr2414 : Array Bool := #[true, true, true, true, false, false, false, false, true, false, false, false, false, false, false, false, false, false, false]
abbrev kPr2415 : Array Bool := #[true, true, true, true, false, false, false, false, false, false, false, false, false, false, false, false, false, false, false]
abbrev kPr2416 : Array Bool := #[true, true, true, false, false, false, false, false, false, false, false, false, false, false, false, false, false, false, false]
abbrev kPr2417 : Array Bool := #[true, true, false, false, false, false, false, false, false, false, false, false, false, false, false, false, false, false, false]
abbrev kPr2418 : Array Bool := #[true, false, false, false, false, false, false, false, false, false, false, false, false, false, false, false, false, false, false]
abbrev kPr2419 : Array Bool := #[false, false, false, false, false, false, false, false, false, false, false, false, false, false, false, false, false, false, false]
/-! ### musterref31_Clock: function 38 -/
mutual
def musterref31_Clock.j0 : Nat → Int → ByteArray → Option (ByteArray)
 | 0, _, _ => none
 | k + 1, x0, x3 => musterref31_Clock.l0 k x3 (([wrap64 (Int.tdiv (Int.tmod x0 86400) 3600), wrap64 (Int.tdiv (Int.tmod x0 3600) 60), Int.tmod x0 60] : List Int)) 0
def musterref31_Clock.l0 : Nat → ByteArray → List Int → Int → Option (ByteArray)
 | 0, _, _, _ => none
 | k + 1, x3, x4, x5 => if x5 < 3 then (if x5 > 0 then (if x3.size + 1 ≤ 9223372036854775807 then (if 0 ≤ x5 then (if x5 < (x4.length : Int) then ((some (([(wrap64 (48 + (wrap64 (Int.tdiv (rd x4 x5) 10)))) % 256, (wrap64 (48 + (Int.tmod (rd x4 x5) 10))) % 256] : List Int) : List Int)).bind fun y269 => (if (x3 ++ (⟨#[58]⟩ : ByteArray)).size + (strOfNums y269).size ≤ 9223372036854775807 then (musterref31_Clock.l0 k ((x3 ++ (⟨#[58]⟩ : ByteArray)) ++ (strOfNums y269)) x4 (wrap64 (x5 + 1))) else (none))) else (none)) else (none)) else (none)) else (if 0 ≤ x5 then (if x5 < (x4.length : Int) then ((some (([(wrap64 (48 + (wrap64 (Int.tdiv (rd x4 x5) 10)))) % 256, (wrap64 (48 + (Int.tmod (rd x4 x5) 10))) % 256] : List Int) : List Int)).bind fun y274 => (if x3.size + (strOfNums y274).size ≤ 9223372036854775807 then (musterref31_Clock.l0 k (x3 ++ (strOfNums y274)) x4 (wrap64 (x5 + 1))) else (none))) else (none)) else (none))) else (some x3)
end
def musterref31_Clock.f (k : Nat) (a0 : Int) : Option (ByteArray) := if a0 < 0 then (some (⟨#[45]⟩ : ByteArray)) else (if a0 ≥ 86400 then ((musterref31_Decimal.f k (wrap64 (Int.tdiv a0 86400))).bind fun t263 => (if t263.size + 1 ≤ 9223372036854775807 then (musterref31_Clock.j0 k a0 (t263 ++ (⟨#[45]⟩ : ByteArray))) else (none))) else (musterref31_Clock.j0 k a0 (⟨#[]⟩ : ByteArray)))
theorem musterref31_Clock.mono_l : ∀ k, (∀ y0 y1, LeO (musterref31_Clock.j0 k y0 y1) (musterref31_Clock.j0 (k + 1) y0 y1)) ∧ (∀ y0 y1 y2, LeO (musterref31_Clock.l0 k y0 y1 y2) (musterref31_Clock.l0 (k + 1) y0 y1 y2))
 | 0 => ⟨fun _ _ r h => by simp [musterref31_Clock.j0] at h, fun _ _ _ r h => by simp [musterref31_Clock.l0] at h⟩
 | k + 1 => by
  obtain ⟨ih0, ih1⟩ := musterref31_Clock.mono_l k; refine ⟨?_, ?_⟩
  ·intro y0 y1; unfold musterref31_Clock.j0; repeat' first
   | (with_reducible exact ih0 _ _)
   | (with_reducible exact ih1 _ _ _)
   | (with_reducible exact musterref31_Decimal.mono _ _)
   | (with_reducible exact LeO.refl _)
   | (with_reducible exact LeO.none _)
   | (with_reducible refine LeO.ite ?_ ?_)
   | (with_reducible refine LeO.bind ?_ (fun _ => ?_))
   | exact ih0 _ _
   | exact ih1 _ _ _
   | exact musterref31_Decimal.mono _ _
   | exact LeO.none _
   | refine LeO.ite ?_ ?_
   | refine LeO.bind ?_ (fun _ => ?_)
  ·intro y0 y1 y2; unfold musterref31_Clock.l0; repeat' first
   | (with_reducible exact ih0 _ _)
   | (with_reducible exact ih1 _ _ _)
   | (with_reducible exact musterref31_Decimal.mono _ _)
   | (with_reducible exact LeO.refl _)
   | (with_reducible exact LeO.none _)
   | (with_reducible refine LeO.ite ?_ ?_)
   | (with_reducible refine LeO.bind ?_ (fun _ => ?_))
   | exact ih0 _ _
   | exact ih1 _ _ _
   | exact musterref31_Decimal.mono _ _
   | exact LeO.none _
   | refine LeO.ite ?_ ?_
   | refine LeO.bind ?_ (fun _ => ?_)
theorem musterref31_Clock.mono : ∀ a0 k, LeO (musterref31_Clock.f k a0) (musterref31_Clock.f (k + 1) a0) := by
 intro a0 k; obtain ⟨ih0, ih1⟩ := musterref31_Clock.mono_l k; unfold musterref31_Clock.f
 repeat' first
   | (with_reducible exact ih0 _ _)
   | (with_reducible exact ih1 _ _ _)
   | (with_reducible exact musterref31_Decimal.mono _ _)
   | (with_reducible exact LeO.refl _)
   | (with_reducible exact LeO.none _)
   | (with_reducible refine LeO.ite ?_ ?_)
   | (with_reducible refine LeO.bind ?_ (fun _ => ?_))
   | exact ih0 _ _
   | exact ih1 _ _ _
   | exact musterref31_Decimal.mono _ _
   | exact LeO.none _
   | refine LeO.ite ?_ ?_
   | refine LeO.bind ?_ (fun _ => ?_)
def musterref31_Clock.T12 : Bool × List (List Nat × List Nat) := (true, [([], []), ([], []), ([], []), ([1, 2], [1, 2]), ([3], [3]), ([4], [4]), ([5], [5]), ([6], [6]), ([], []), ([], []), ([8, 9], [8, 9]), ([10], [10]), ([11], [11]), ([12], [12]), ([13], [13]), ([7, 14], [7, 14]), ([15], [15]), ([0, 16], [0, 16]), ([17, 0, 1, 2, 3, 4, 5, 6, 7, 8, 9, 10, 11, 12, 13, 14, 15, 16, 17], [0, 17])])
def musterref31_Clock.B12 : List Nat := [0, 0, 0, 6, 14, 30, 62, 126, 0, 0, 768, 1792, 3840, 7936, 16128, 32766, 65534, 131071, 262143]
theorem musterref31_Clock.tab12 : rtab .any (opsOf Tryd.f38 12) = musterref31_Clock.T12 := by kernel_rfl
theorem musterref31_Clock.bits12 : waitsOk musterref31_Clock.T12.2 musterref31_Clock.B12 = true := by kernel_rfl
set_option maxHeartbeats 8000000 in
set_option maxRecDepth 100000 in
theorem musterref31_Clock.calls (k : Nat) (a0 : Int) (r : ByteArray) (w : World) (h : musterref31_Clock.f k a0 = some r) :
  Calls Tryd.prog 38 #[.int .i64 a0] w fun e w' => e = .returned (.string r) ∧ Below w.heap.size w w' := by
 have HB := Aside0.mk (Below.refl w.heap.size w); have H : (if a0 < 0 then (some (⟨#[45]⟩ : ByteArray)) else (if a0 ≥ 86400 then ((musterref31_Decimal.f k (wrap64 (Int.tdiv a0 86400))).bind fun t263 => (if t263.size + 1 ≤ 9223372036854775807 then (musterref31_Clock.j0 k a0 (t263 ++ (⟨#[45]⟩ : ByteArray))) else (none))) else (musterref31_Clock.j0 k a0 (⟨#[]⟩ : ByteArray)))) = some r := h; clear h; by_cases c2 : a0 < 0
 ·rw [if_pos c2] at H; have c2b0 : decide (a0 < 0) = true := decide_eq_true c2; clear c2; obtain rfl := Option.some.inj H; (go_enter Tryd.func38, Tryd.ntmps38); go_wp2; go_ret; exact ⟨by first | rfl | (simp [errW_none, errW_some] <;> rfl) | (simp [*, errW_none, errW_some] <;> rfl), by repeat (first | (with_reducible first | exact HB.out | apply below_alloc | apply pw_below_drewN | apply below_drew1) | exact HB.out)⟩
 ·rw [if_neg c2] at H; have c2b0 : decide (a0 < 0) = false := decide_eq_false c2; clear c2; have HC3 := Aside0.mk H; clear H; (go_enter Tryd.func38, Tryd.ntmps38); (go_upto_if 9 with (fail)); go_cut [3] (fun v3 wc => ∃ (kq : Nat) (x3_2 : ByteArray), v3 = .string x3_2 ∧ Aside0 (musterref31_Clock.j0 kq a0 x3_2 = some r) ∧ Aside0 (kq ≤ k) ∧ Aside0 (Below w.heap.size w wc))
  case first =>
   have H := HC3.out; clear HC3; by_cases c4 : a0 ≥ 86400
   ·rw [if_pos c4] at H; have c4b0 : decide (86400 ≤ a0) = true := decide_eq_true c4; clear c4; (first | rw [c4b0] | (simp only [i64_w, i32_w]; rw [c4b0]) | skip); replace H := Option.bind_eq_some_iff.mp H; obtain ⟨t263, A50, H⟩ := H; replace H : (if t263.size + 1 ≤ 9223372036854775807 then (musterref31_Clock.j0 k a0 (t263 ++ (⟨#[45]⟩ : ByteArray))) else (none)) = some r := H; have A5 := Aside0.mk A50; clear A50; by_cases c6 : t263.size + 1 ≤ 9223372036854775807
    ·rw [if_pos c6] at H; have c6b0 := eq_true c6; have c6b1 : decide (t263.size + 1 ≤ 9223372036854775807) = true := decide_eq_true c6; (try have c6b2 : (9223372036854775807 < t263.size + 1) = False := eq_false (Nat.not_lt.2 c6)); have H' := Aside0.mk H; clear H; (go_wp2_with (first | ((with_reducible refine gate_callee (f := 37) rfl ?_); refine goesL_ (some 12) rfl rfl Tryd.func37 (by kernel_rfl) rfl #[.int .i64 (wrap64 (Int.tdiv a0 86400))] rfl (by (try simp only [List.map_toArray, List.map_cons, List.map_nil]); first | done | rfl | (simp only [List.length_drop, List.length_take]; rfl)) ?_; (with_reducible refine (musterref31_Decimal.calls k (wrap64 (Int.tdiv a0 86400)) t263 _ A5.out).mono ?_); rintro e w7 ⟨rfl, hb⟩; refine ⟨_, rfl, ?_⟩; have n0_ := Aside0.mk (below_step (by repeat (first | (with_reducible first | exact HB.out | apply below_alloc | apply pw_below_drewN | apply below_drew1) | exact HB.out)) hb); clear HB; have HB := n0_; clear n0_; (try clear hb); (try clear hb2); (try clear hk); (try clear hi)))); go_meet
     case rel => exact ⟨_, (t263 ++ (⟨#[45]⟩ : ByteArray)), (by first | rfl | (simp; done) | (simp [*]; done)), H', ⟨by first | omega | exact Nat.le_refl _⟩, ⟨by repeat (first | (with_reducible first | exact HB.out | apply below_alloc | apply pw_below_drewN | apply below_drew1) | exact HB.out)⟩⟩
    ·rw [if_neg c6] at H; exact absurd H (by simp)
   ·rw [if_neg c4] at H; have c4b0 : decide (86400 ≤ a0) = false := decide_eq_false c4; clear c4; (first | rw [c4b0] | (simp only [i64_w, i32_w]; rw [c4b0]) | skip); have H' := Aside0.mk H; clear H; go_wp2; go_meet
    case rel => exact ⟨_, ((⟨#[]⟩ : ByteArray)), (by first | rfl | (simp; done) | (simp [*]; done)), H', ⟨by first | omega | exact Nat.le_refl _⟩, ⟨by repeat (first | (with_reducible first | exact HB.out | apply below_alloc | apply pw_below_drewN | apply below_drew1) | exact HB.out)⟩⟩
  case rest =>
   clear HC3; (try clear c2); (try clear c2b0); (try clear p2); (try clear c3); (try clear c4); (try clear c4b0); (try clear c6); (try clear c6b0); (try clear c6b1); (try clear c6b2); (try clear p6); obtain ⟨kq, x3_2, rfl, HA, HJ2, HB⟩ := hcut
   cases kq with
   | zero => exact absurd HA.out (by simp [musterref31_Clock.j0])
   | succ kj2 =>
    have H := HA.out; clear HA; simp only [musterref31_Clock.j0] at H; (obtain ⟨y264, hy264⟩ : ∃ y_ : List Int, y_ = (([wrap64 (Int.tdiv (Int.tmod a0 86400) 3600), wrap64 (Int.tdiv (Int.tmod a0 3600) 60), Int.tmod a0 60] : List Int)) := ⟨_, rfl⟩); (replace H : (musterref31_Clock.l0 kj2 x3_2 y264 0) = some r := by first | (rw [hy264]; with_reducible exact H) | (have H2_ := (Option.bind_some _ _).symm.trans H; rw [hy264]; with_reducible exact H2_) | (have H2_ := (Option.bind_some _ _).symm.trans H; with_reducible exact H2_) | with_reducible exact H | (rw [hy264]; exact H) | exact H); have Ny264 := Aside0.mk hy264; clear hy264; have H' := Aside0.mk H; clear H; (go_wp2_with (first | ((with_reducible refine gate_dst (N := 22) rfl ?_); refine Kd.R_lit (Kd.int .i64) _ 2 ?hg (N := 22) ?hd (xs := ([wrap64 (Int.tdiv (Int.tmod a0 86400) 3600), wrap64 (Int.tdiv (Int.tmod a0 3600) 60), Int.tmod a0 60] : List Int)) (inner := [.int .i64 (wrap64 (Int.tdiv (Int.tmod a0 86400) 3600)), .int .i64 (wrap64 (Int.tdiv (Int.tmod a0 3600) 60)), .int .i64 (Int.tmod a0 60)]) (ok := fun _ => True) (okp := fun _ => True) ?hr ?hp (fun _ hk => hk) trivial (Below.refl _ _) (Nat.le_refl _) (by simp) ?_; (case hd => rfl); (case hg => rfl); (case hr => first | (go_simp; done) | (go_simp; rfl)); (case hp => exact (Reps.one (show Kd.M (Kd.int .i64) _ _ _ (wrap64 (Int.tdiv (Int.tmod a0 86400) 3600)) [.int .i64 (wrap64 (Int.tdiv (Int.tmod a0 86400) 3600))] from rfl) (Reps.one (show Kd.M (Kd.int .i64) _ _ _ (wrap64 (Int.tdiv (Int.tmod a0 3600) 60)) [.int .i64 (wrap64 (Int.tdiv (Int.tmod a0 3600) 60))] from rfl) (Reps.one (show Kd.M (Kd.int .i64) _ _ _ (Int.tmod a0 60) [.int .i64 (Int.tmod a0 60)] from rfl) (Reps.none _ _))))); intro v265 w8 ho9 hb hg_ hnew_; clear hg_ hnew_; (first | rw [← Ny264.out] at ho9 | (simp only [Int.reduceToNat] at ho9; rw [← Ny264.out] at ho9)); have n0_ := Aside0.mk (Kd.R_lower ho9 (below_size (by repeat (first | (with_reducible first | exact HB.out | apply below_alloc | apply pw_below_drewN | apply below_drew1) | exact HB.out)))); have n1_ := Aside0.mk (below_step (by repeat (first | (with_reducible first | exact HB.out | apply below_alloc | apply pw_below_drewN | apply below_drew1) | exact HB.out)) hb); clear HB; have HO266 := n0_; have HB := n1_; clear n0_ n1_; clear hb ho9))); go_loopg [3, 5] kj2 (fun kq v3 v5 w' => ∃ (x3_2 : ByteArray) (x5_2 : Int), v3 = .string x3_2 ∧ v5 = .int .i64 x5_2 ∧ Aside0 (musterref31_Clock.l0 kq x3_2 y264 x5_2 = some r) ∧ Aside0 (kq ≤ kj2) ∧ Aside0 (Kd.R (Kd.int .i64) 2 w' w.heap.size (fun _ => True) v265 y264) ∧ Aside0 (Below w.heap.size w w'))
    case atStart => exact ⟨(x3_2), (0), (by first | rfl | (simp; done) | (simp [*]; done)), (by first | rfl | (simp; done) | (simp [*]; done)), H', ⟨Nat.le_refl _⟩, ⟨by (with_reducible repeat (first | apply Kd.R_alloc | apply Kd.R_drewN | apply Kd.R_drew)); exact HO266.out⟩, ⟨by repeat (first | (with_reducible first | exact HB.out | apply below_alloc | apply pw_below_drewN | apply below_drew1) | exact HB.out)⟩⟩
    case round =>
     clear H'; (try clear c2); (try clear c2b0); (try clear p2); (try clear c3); (try clear c4); (try clear c4b0); (try clear c6); (try clear c6b0); (try clear c6b1); (try clear c6b2); (try clear p6); (try clear p2); (try clear p6); obtain ⟨x3_2, x5_2, rfl, rfl, HA, HK2, HO_4, HB⟩ := hrel
     cases gk with
     | zero => exact absurd HA.out (by simp [musterref31_Clock.l0])
     | succ k2 =>
      have H := HA.out; clear HA; simp only [musterref31_Clock.l0] at H; by_cases c10 : x5_2 < 3
      ·rw [if_pos c10] at H; have c10b0 : decide (x5_2 < 3) = true := decide_eq_true c10; clear c10; by_cases c11 : x5_2 > 0
       ·rw [if_pos c11] at H; have c11b0 : decide (0 < x5_2) = true := decide_eq_true c11; clear c11; by_cases c12 : x3_2.size + 1 ≤ 9223372036854775807
        ·rw [if_pos c12] at H; have c12b0 := eq_true c12; have c12b1 : decide (x3_2.size + 1 ≤ 9223372036854775807) = true := decide_eq_true c12; (try have c12b2 : (9223372036854775807 < x3_2.size + 1) = False := eq_false (Nat.not_lt.2 c12)); by_cases c13 : 0 ≤ x5_2
         ·rw [if_pos c13] at H; have c13b0 : decide (0 ≤ x5_2) = true := decide_eq_true c13; clear c13; by_cases c14 : x5_2 < (y264.length : Int)
          ·rw [if_pos c14] at H; have c14b0 : decide (x5_2 < (y264.length : Int)) = true := decide_eq_true c14; clear c14; (obtain ⟨y269, hy269⟩ : ∃ y_ : List Int, y_ = (([(wrap64 (48 + (wrap64 (Int.tdiv (rd y264 x5_2) 10)))) % 256, (wrap64 (48 + (Int.tmod (rd y264 x5_2) 10))) % 256] : List Int)) := ⟨_, rfl⟩); (replace H : (if (x3_2 ++ (⟨#[58]⟩ : ByteArray)).size + (strOfNums y269).size ≤ 9223372036854775807 then (musterref31_Clock.l0 k2 ((x3_2 ++ (⟨#[58]⟩ : ByteArray)) ++ (strOfNums y269)) y264 (wrap64 (x5_2 + 1))) else (none)) = some r := by first | (rw [hy269]; with_reducible exact H) | (have H2_ := (Option.bind_some _ _).symm.trans H; rw [hy269]; with_reducible exact H2_) | (have H2_ := (Option.bind_some _ _).symm.trans H; with_reducible exact H2_) | with_reducible exact H | (rw [hy269]; exact H) | exact H); have Ny269 := Aside0.mk hy269; clear hy269; by_cases c15 : (x3_2 ++ (⟨#[58]⟩ : ByteArray)).size + (strOfNums y269).size ≤ 9223372036854775807
           ·rw [if_pos c15] at H; have c15b0 := eq_true c15; have c15b1 : decide ((x3_2 ++ (⟨#[58]⟩ : ByteArray)).size + (strOfNums y269).size ≤ 9223372036854775807) = true := decide_eq_true c15; (have c15m0 : (x3_2.size + 1 + ((strOfNums y269).size) ≤ 9223372036854775807) = True := by have h_ := c15; simp only [ByteArray.size_append] at h_; exact eq_true h_); (have c15m1 : (9223372036854775807 < x3_2.size + 1 + ((strOfNums y269).size)) = False := by have h_ := c15; simp only [ByteArray.size_append] at h_; exact eq_false (Nat.not_lt.2 h_)); (try have c15b2 : (9223372036854775807 < (x3_2 ++ (⟨#[58]⟩ : ByteArray)).size + (strOfNums y269).size) = False := eq_false (Nat.not_lt.2 c15)); have H' := Aside0.mk H; clear H; (try go_wp2); have n0_ := Aside0.mk (Kd.R_drew HO_4.out); have n1_ := Aside0.mk (below_drew1 HB.out); clear HO_4; clear HB; have HO_4 := n0_; have HB := n1_; clear n0_ n1_; obtain ⟨Ao17, co17, eo17⟩ := Kd.R_slice HO_4.out; (first | subst eo17 | (injection eo17 with f1_ f2_ f3_; have f4_ := f1_.symm; have f5_ := f3_.symm; clear f1_ f2_ f3_; subst f4_; subst f5_)); have p267 : 0 ≤ (x5_2 : Int) := of_decide_eq_true (by first | (with_reducible assumption) | assumption); have q267 : x5_2 < (y264.length : Int) := of_decide_eq_true (by first | (with_reducible assumption) | assumption); obtain ⟨ad267, e267, hx267_0⟩ := Kd.at_int (Kd.R_reads' HO_4.out).2.2 x5_2 p267 q267
            cases e267; replace p267 := eq_true p267; replace q267 := eq_true q267; have p268 : 0 ≤ (x5_2 : Int) := of_decide_eq_true (by first | (with_reducible assumption) | assumption); have q268 : x5_2 < (y264.length : Int) := of_decide_eq_true (by first | (with_reducible assumption) | assumption); obtain ⟨ad268, e268, hx268_0⟩ := Kd.at_int (Kd.R_reads' HO_4.out).2.2 x5_2 p268 q268; (obtain rfl : ad267 = ad268 := (by injection e268)); replace p268 := eq_true p268; replace q268 := eq_true q268; refine start_ (n := 19) (S := fun w' => w'.cell? (ad267.add (x5_2).toNat) = some (.int .i64 (rd y264 x5_2)) ∧ w'.cell? (ad267.add (x5_2).toNat) = some (.int .i64 (rd y264 x5_2))) (ds := [16]) kPr2419 (by kernel_rfl) rfl rfl ⟨hx267_0, hx268_0⟩ (fun hHeld => ?_); refine with_tabW musterref31_Clock.tab12 musterref31_Clock.bits12 (fun HT_ HW_ => ?_); generalize wr.drew = w16 at HO_4 HB hx267_0 hx268_0 hHeld ⊢; refine pure_ (i := 0) (N := some 31) (v := ?_) (a' := ?_) kPr2418 rfl rfl (any_of HT_.out (by kernel_rfl)) (fun _ _ _ h => h) (Or.inl ⟨by rfl, ?_⟩) ?_ ?_; rotate_left
            ·intro w'; go_simp; with_reducible rfl
            rotate_left
            ·simp only [Act.put, sA, sB, sC, i64_w, i32_w]; rfl
            refine pure_ (i := 1) (N := some 32) (v := ?_) (a' := ?_) kPr2417 rfl rfl (any_of HT_.out (by kernel_rfl)) (fun _ _ _ h => h) (Or.inl ⟨by rfl, ?_⟩) ?_ ?_; rotate_left
            ·intro w'; go_simp; with_reducible rfl
            rotate_left
            ·simp only [Act.put, sA, sB, sC, i64_w, i32_w]; rfl
            refine pure_ (i := 2) (N := some 33) (v := ?_) (a' := ?_) kPr2416 rfl rfl (any_of HT_.out (by kernel_rfl)) (fun _ _ _ h => h) (Or.inl ⟨by rfl, ?_⟩) ?_ ?_; rotate_left
            ·intro w'; go_simp; with_reducible rfl
            rotate_left
            ·simp only [Act.put, sA, sB, sC, i64_w, i32_w]; rfl
            refine pure_ (i := 3) (N := some 34) (v := ?_) (a' := ?_) kPr2415 rfl rfl (any_of HT_.out (by kernel_rfl)) (fun _ _ _ h => h) (Or.inl ⟨by rfl, ?_⟩) ?_ ?_; rotate_left
            ·intro w'; go_simp; with_reducible rfl
            rotate_left
            ·simp only [Act.put, sA, sB, sC, i64_w, i32_w]; rfl
            refine pure_ (i := 8) (N := some 39) (v := ?_) (a' := ?_) kPr2414 rfl rfl (any_of HT_.out (by kernel_rfl)) (fun _ _ _ h => h) (Or.inl ⟨by rfl, ?_⟩) ?_ ?_; rotate_left
            ·intro w'; go_simp; with_reducible rfl
            rotate_left
            ·simp only [Act.put, sA, sB, sC, i64_w, i32_w]; rfl
            refine pure_ (i := 9) (N := some 40) (v := ?_) (a' := ?_) kPr2413 rfl rfl (any_of HT_.out (by kernel_rfl)) (fun _ _ _ h => h) (Or.inl ⟨by rfl, ?_⟩) ?_ ?_; rotate_left
            ·intro w'; go_simp; with_reducible rfl
            rotate_left
            ·simp only [Act.put, sA, sB, sC, i64_w, i32_w]; rfl
            refine pure_ (i := 10) (N := some 41) (v := ?_) (a' := ?_) kPr2412 rfl rfl (any_of HT_.out (by kernel_rfl)) (fun _ _ _ h => h) (Or.inl ⟨by rfl, ?_⟩) ?_ ?_; rotate_left
            ·intro w'; go_simp; with_reducible rfl
            rotate_left
            ·simp only [Act.put, sA, sB, sC, i64_w, i32_w]; rfl
            refine take_ (i := 4) (N := some 35) (v := ?_) (a' := ?_) kPr2411 rfl rfl (take_ofW HT_.out HW_.out (by kernel_rfl)) (fun _ _ _ h => h) (Or.inl ⟨by rfl, ?_⟩) hHeld ?_ ?_; rotate_left
            ·rintro w' ⟨s0, s1⟩; go_simp; with_reducible rfl
            rotate_left
            ·simp only [Act.put, sA, sB, sC, i64_w, i32_w]; rfl
            refine pure_ (i := 5) (N := some 36) (v := ?_) (a' := ?_) kPr2410 rfl rfl (any_of HT_.out (by kernel_rfl)) (fun _ _ _ h => h) (Or.inl ⟨by rfl, ?_⟩) ?_ ?_; rotate_left
            ·intro w'; go_simp; with_reducible rfl
            rotate_left
            ·simp only [Act.put, sA, sB, sC, i64_w, i32_w]; rfl
            refine pure_ (i := 6) (N := some 37) (v := ?_) (a' := ?_) kPr249 rfl rfl (any_of HT_.out (by kernel_rfl)) (fun _ _ _ h => h) (Or.inl ⟨by rfl, ?_⟩) ?_ ?_; rotate_left
            ·intro w'; go_simp; with_reducible rfl
            rotate_left
            ·simp only [Act.put, sA, sB, sC, i64_w, i32_w]; rfl
            refine pure_ (i := 7) (N := some 38) (v := ?_) (a' := ?_) kPr248 rfl rfl (any_of HT_.out (by kernel_rfl)) (fun _ _ _ h => h) (Or.inl ⟨by rfl, ?_⟩) ?_ ?_; rotate_left
            ·intro w'; go_simp; with_reducible rfl
            rotate_left
            ·simp only [Act.put, sA, sB, sC, i64_w, i32_w]; rfl
            refine take_ (i := 11) (N := some 42) (v := ?_) (a' := ?_) kPr247 rfl rfl (take_ofW HT_.out HW_.out (by kernel_rfl)) (fun _ _ _ h => h) (Or.inl ⟨by rfl, ?_⟩) hHeld ?_ ?_; rotate_left
            ·rintro w' ⟨s0, s1⟩; go_simp; with_reducible rfl
            rotate_left
            ·simp only [Act.put, sA, sB, sC, i64_w, i32_w]; rfl
            refine pure_ (i := 12) (N := some 43) (v := ?_) (a' := ?_) kPr246 rfl rfl (any_of HT_.out (by kernel_rfl)) (fun _ _ _ h => h) (Or.inl ⟨by rfl, ?_⟩) ?_ ?_; rotate_left
            ·intro w'; go_simp; with_reducible rfl
            rotate_left
            ·simp only [Act.put, sA, sB, sC, i64_w, i32_w]; rfl
            refine pure_ (i := 13) (N := some 44) (v := ?_) (a' := ?_) kPr245 rfl rfl (any_of HT_.out (by kernel_rfl)) (fun _ _ _ h => h) (Or.inl ⟨by rfl, ?_⟩) ?_ ?_; rotate_left
            ·intro w'; go_simp; with_reducible rfl
            rotate_left
            ·simp only [Act.put, sA, sB, sC, i64_w, i32_w]; rfl
            refine pure_ (i := 14) (N := some 45) (v := ?_) (a' := ?_) kPr244 rfl rfl (any_of HT_.out (by kernel_rfl)) (fun _ _ _ h => h) (Or.inl ⟨by rfl, ?_⟩) ?_ ?_; rotate_left
            ·intro w'; go_simp; with_reducible rfl
            rotate_left
            ·simp only [Act.put, sA, sB, sC, i64_w, i32_w]; rfl
            refine one_ (i := 15) (N := some 46) kPr243 rfl rfl (one_of HT_.out (by kernel_rfl)) (by decide) (fun K hK => ?_); refine Kd.R_lit_step (Kd.int .u8) _ 5 ?hg (N := 46) ?hd (xs := ([(wrap64 (48 + (wrap64 (Int.tdiv (rd y264 x5_2) 10)))) % 256, (wrap64 (48 + (Int.tmod (rd y264 x5_2) 10))) % 256] : List Int)) (inner := [.int .u8 ((wrap64 (48 + (wrap64 (Int.tdiv (rd y264 x5_2) 10)))) % 256), .int .u8 ((wrap64 (48 + (Int.tmod (rd y264 x5_2) 10))) % 256)]) (ok := fun _ => True) (okp := fun _ => True) ?hr ?hp (fun _ hk => hk) trivial (Below.refl _ _) (Nat.le_refl _) (by simp) ?_; (case hd => rfl); (case hg => rfl); (case hr => first | (go_simp; done) | (go_simp; rfl)); (case hp => exact (Reps.one (show Kd.M (Kd.int .u8) _ _ _ ((wrap64 (48 + (wrap64 (Int.tdiv (rd y264 x5_2) 10)))) % 256) [.int .u8 ((wrap64 (48 + (wrap64 (Int.tdiv (rd y264 x5_2) 10)))) % 256)] from rfl) (Reps.one (show Kd.M (Kd.int .u8) _ _ _ ((wrap64 (48 + (Int.tmod (rd y264 x5_2) 10))) % 256) [.int .u8 ((wrap64 (48 + (Int.tmod (rd y264 x5_2) 10))) % 256)] from rfl) (Reps.none _ _)))); intro v270 w18 ho19 hb hg_ hnew_; have HS0_ := (hb.cell (World.block_lt_of_cell? _ _ (hHeld.1))).trans (hHeld.1); have HS1_ := (hb.cell (World.block_lt_of_cell? _ _ (hHeld.2))).trans (hHeld.2); clear hg_ hnew_; (first | rw [← Ny269.out] at ho19 | (simp only [Int.reduceToNat] at ho19; rw [← Ny269.out] at ho19)); have n0_ := Aside0.mk (Kd.R_below (by (with_reducible repeat (first | apply Kd.R_alloc | apply Kd.R_drewN | apply Kd.R_drew)); exact HO_4.out) hb); have n1_ := Aside0.mk (Kd.R_lower ho19 (below_size (by repeat (first | (with_reducible first | exact HB.out | apply below_alloc | apply pw_below_drewN | apply below_drew1) | exact HB.out)))); have n2_ := Aside0.mk (below_step (by repeat (first | (with_reducible first | exact HB.out | apply below_alloc | apply pw_below_drewN | apply below_drew1) | exact HB.out)) hb); clear HO_4; clear HB; have HO_4 := n0_; have HO271 := n1_; have HB := n2_; clear n0_ n1_ n2_; clear hb ho19; refine hK.out _ _ ⟨HS0_, HS1_⟩ (fun hHeld => ?_); clear hK K; refine norm_ (a' := ?_) ?_ ?_; rotate_left
            ·show Act.put _ (some 46) _ = _; simp only [Act.put, sA, sB, sC, i64_w, i32_w]; rfl
            refine last_ (i := 16) (N := some 47) kPr242 rfl rfl (one_of HT_.out (by kernel_rfl)) (by decide) (fun K hK => ?_); have hcv20 := own_string (P := Tryd.prog) Tryd.underlying70 Tryd.underlying5 Tryd.underlying9 (Kd.own_of_R HO271.out); refine value_ (w1 := ?_) (v := ?_) (by rfl) rfl ?_ ?_; rotate_left 2
            ·go_simp; constructor
             ·rfl
             ·rfl
            clear hcv20; refine hK.out _ _ ?_; clear hK K; refine norm_ (a' := ?_) ?_ ?_; rotate_left
            ·show Act.put _ (some 47) _ = _; simp only [Act.put, sA, sB, sC, i64_w, i32_w]; rfl
            refine pure_ (i := 17) (N := some 48) (v := ?_) (a' := ?_) kPr241 rfl rfl (any_of HT_.out (by kernel_rfl)) (fun _ _ _ h => h) (Or.inl ⟨by rfl, ?_⟩) ?_ ?_; rotate_left
            ·intro w'; go_simp; with_reducible rfl
            rotate_left
            ·simp only [Act.put, sA, sB, sC, i64_w, i32_w]; rfl
            refine pure_ (i := 18) (N := some 3) (v := ?_) (a' := ?_) kPr240 rfl rfl (any_of HT_.out (by kernel_rfl)) (fun _ _ _ h => h) (Or.inl ⟨by rfl, ?_⟩) ?_ ?_; rotate_left
            ·intro w'; go_simp; with_reducible rfl
            rotate_left
            ·simp only [Act.put, sA, sB, sC, i64_w, i32_w]; rfl
            refine done_ (done_of HT_.out (by kernel_rfl)) ?_; (try go_wp2); go_roundg k2
            case measure => have := HJ2.out; have := HK2.out; omega
            case rel => exact ⟨((x3_2 ++ (⟨#[58]⟩ : ByteArray)) ++ (strOfNums y269)), (wrap64 (x5_2 + 1)), (by first | rfl | (simp; done) | (simp [*]; done)), (by first | rfl | (simp; done) | (simp [*]; done)), H', ⟨by have := HJ2.out; have := HK2.out; omega⟩, ⟨by (with_reducible repeat (first | apply Kd.R_alloc | apply Kd.R_drewN | apply Kd.R_drew)); exact HO_4.out⟩, ⟨by repeat (first | (with_reducible first | exact HB.out | apply below_alloc | apply pw_below_drewN | apply below_drew1) | exact HB.out)⟩⟩
           ·rw [if_neg c15] at H; exact absurd H (by simp)
          ·rw [if_neg c14] at H; exact absurd H (by simp)
         ·rw [if_neg c13] at H; exact absurd H (by simp)
        ·rw [if_neg c12] at H; exact absurd H (by simp)
       ·rw [if_neg c11] at H; have c11b0 : decide (0 < x5_2) = false := decide_eq_false c11; clear c11; by_cases c21 : 0 ≤ x5_2
        ·rw [if_pos c21] at H; have c21b0 : decide (0 ≤ x5_2) = true := decide_eq_true c21; clear c21; by_cases c22 : x5_2 < (y264.length : Int)
         ·rw [if_pos c22] at H; have c22b0 : decide (x5_2 < (y264.length : Int)) = true := decide_eq_true c22; clear c22; (obtain ⟨y274, hy274⟩ : ∃ y_ : List Int, y_ = (([(wrap64 (48 + (wrap64 (Int.tdiv (rd y264 x5_2) 10)))) % 256, (wrap64 (48 + (Int.tmod (rd y264 x5_2) 10))) % 256] : List Int)) := ⟨_, rfl⟩); (replace H : (if x3_2.size + (strOfNums y274).size ≤ 9223372036854775807 then (musterref31_Clock.l0 k2 (x3_2 ++ (strOfNums y274)) y264 (wrap64 (x5_2 + 1))) else (none)) = some r := by first | (rw [hy274]; with_reducible exact H) | (have H2_ := (Option.bind_some _ _).symm.trans H; rw [hy274]; with_reducible exact H2_) | (have H2_ := (Option.bind_some _ _).symm.trans H; with_reducible exact H2_) | with_reducible exact H | (rw [hy274]; exact H) | exact H); have Ny274 := Aside0.mk hy274; clear hy274; by_cases c23 : x3_2.size + (strOfNums y274).size ≤ 9223372036854775807
          ·rw [if_pos c23] at H; have c23b0 := eq_true c23; have c23b1 : decide (x3_2.size + (strOfNums y274).size ≤ 9223372036854775807) = true := decide_eq_true c23; (try have c23b2 : (9223372036854775807 < x3_2.size + (strOfNums y274).size) = False := eq_false (Nat.not_lt.2 c23)); have H' := Aside0.mk H; clear H; (try go_wp2); have n0_ := Aside0.mk (Kd.R_drew HO_4.out); have n1_ := Aside0.mk (below_drew1 HB.out); clear HO_4; clear HB; have HO_4 := n0_; have HB := n1_; clear n0_ n1_; obtain ⟨Ao25, co25, eo25⟩ := Kd.R_slice HO_4.out; (first | subst eo25 | (injection eo25 with f1_ f2_ f3_; have f4_ := f1_.symm; have f5_ := f3_.symm; clear f1_ f2_ f3_; subst f4_; subst f5_)); have p272 : 0 ≤ (x5_2 : Int) := of_decide_eq_true (by first | (with_reducible assumption) | assumption); have q272 : x5_2 < (y264.length : Int) := of_decide_eq_true (by first | (with_reducible assumption) | assumption); obtain ⟨ad272, e272, hx272_0⟩ := Kd.at_int (Kd.R_reads' HO_4.out).2.2 x5_2 p272 q272
           cases e272; replace p272 := eq_true p272; replace q272 := eq_true q272; have p273 : 0 ≤ (x5_2 : Int) := of_decide_eq_true (by first | (with_reducible assumption) | assumption); have q273 : x5_2 < (y264.length : Int) := of_decide_eq_true (by first | (with_reducible assumption) | assumption); obtain ⟨ad273, e273, hx273_0⟩ := Kd.at_int (Kd.R_reads' HO_4.out).2.2 x5_2 p273 q273; (obtain rfl : ad272 = ad273 := (by injection e273)); replace p273 := eq_true p273; replace q273 := eq_true q273; refine start_ (n := 19) (S := fun w' => w'.cell? (ad272.add (x5_2).toNat) = some (.int .i64 (rd y264 x5_2)) ∧ w'.cell? (ad272.add (x5_2).toNat) = some (.int .i64 (rd y264 x5_2))) (ds := [16]) kPr2419 (by kernel_rfl) rfl rfl ⟨hx272_0, hx273_0⟩ (fun hHeld => ?_); refine with_tabW musterref31_Clock.tab12 musterref31_Clock.bits12 (fun HT_ HW_ => ?_); generalize wr.drew = w24 at HO_4 HB hx272_0 hx273_0 hHeld ⊢; refine pure_ (i := 0) (N := some 31) (v := ?_) (a' := ?_) kPr2418 rfl rfl (any_of HT_.out (by kernel_rfl)) (fun _ _ _ h => h) (Or.inl ⟨by rfl, ?_⟩) ?_ ?_; rotate_left
           ·intro w'; go_simp; with_reducible rfl
           rotate_left
           ·simp only [Act.put, sA, sB, sC, i64_w, i32_w]; rfl
           refine pure_ (i := 1) (N := some 32) (v := ?_) (a' := ?_) kPr2417 rfl rfl (any_of HT_.out (by kernel_rfl)) (fun _ _ _ h => h) (Or.inl ⟨by rfl, ?_⟩) ?_ ?_; rotate_left
           ·intro w'; go_simp; with_reducible rfl
           rotate_left
           ·simp only [Act.put, sA, sB, sC, i64_w, i32_w]; rfl
           refine pure_ (i := 2) (N := some 33) (v := ?_) (a' := ?_) kPr2416 rfl rfl (any_of HT_.out (by kernel_rfl)) (fun _ _ _ h => h) (Or.inl ⟨by rfl, ?_⟩) ?_ ?_; rotate_left
           ·intro w'; go_simp; with_reducible rfl
           rotate_left
           ·simp only [Act.put, sA, sB, sC, i64_w, i32_w]; rfl
           refine pure_ (i := 3) (N := some 34) (v := ?_) (a' := ?_) kPr2415 rfl rfl (any_of HT_.out (by kernel_rfl)) (fun _ _ _ h => h) (Or.inl ⟨by rfl, ?_⟩) ?_ ?_; rotate_left
           ·intro w'; go_simp; with_reducible rfl
           rotate_left
           ·simp only [Act.put, sA, sB, sC, i64_w, i32_w]; rfl
           refine pure_ (i := 8) (N := some 39) (v := ?_) (a' := ?_) kPr2414 rfl rfl (any_of HT_.out (by kernel_rfl)) (fun _ _ _ h => h) (Or.inl ⟨by rfl, ?_⟩) ?_ ?_; rotate_left
           ·intro w'; go_simp; with_reducible rfl
           rotate_left
           ·simp only [Act.put, sA, sB, sC, i64_w, i32_w]; rfl
           refine pure_ (i := 9) (N := some 40) (v := ?_) (a' := ?_) kPr2413 rfl rfl (any_of HT_.out (by kernel_rfl)) (fun _ _ _ h => h) (Or.inl ⟨by rfl, ?_⟩) ?_ ?_; rotate_left
           ·intro w'; go_simp; with_reducible rfl
           rotate_left
           ·simp only [Act.put, sA, sB, sC, i64_w, i32_w]; rfl
           refine pure_ (i := 10) (N := some 41) (v := ?_) (a' := ?_) kPr2412 rfl rfl (any_of HT_.out (by kernel_rfl)) (fun _ _ _ h => h) (Or.inl ⟨by rfl, ?_⟩) ?_ ?_; rotate_left
           ·intro w'; go_simp; with_reducible rfl
           rotate_left
           ·simp only [Act.put, sA, sB, sC, i64_w, i32_w]; rfl
           refine take_ (i := 4) (N := some 35) (v := ?_) (a' := ?_) kPr2411 rfl rfl (take_ofW HT_.out HW_.out (by kernel_rfl)) (fun _ _ _ h => h) (Or.inl ⟨by rfl, ?_⟩) hHeld ?_ ?_; rotate_left
           ·rintro w' ⟨s0, s1⟩; go_simp; with_reducible rfl
           rotate_left
           ·simp only [Act.put, sA, sB, sC, i64_w, i32_w]; rfl
           refine pure_ (i := 5) (N := some 36) (v := ?_) (a' := ?_) kPr2410 rfl rfl (any_of HT_.out (by kernel_rfl)) (fun _ _ _ h => h) (Or.inl ⟨by rfl, ?_⟩) ?_ ?_; rotate_left
           ·intro w'; go_simp; with_reducible rfl
           rotate_left
           ·simp only [Act.put, sA, sB, sC, i64_w, i32_w]; rfl
           refine pure_ (i := 6) (N := some 37) (v := ?_) (a' := ?_) kPr249 rfl rfl (any_of HT_.out (by kernel_rfl)) (fun _ _ _ h => h) (Or.inl ⟨by rfl, ?_⟩) ?_ ?_; rotate_left
           ·intro w'; go_simp; with_reducible rfl
           rotate_left
           ·simp only [Act.put, sA, sB, sC, i64_w, i32_w]; rfl
           refine pure_ (i := 7) (N := some 38) (v := ?_) (a' := ?_) kPr248 rfl rfl (any_of HT_.out (by kernel_rfl)) (fun _ _ _ h => h) (Or.inl ⟨by rfl, ?_⟩) ?_ ?_; rotate_left
           ·intro w'; go_simp; with_reducible rfl
           rotate_left
           ·simp only [Act.put, sA, sB, sC, i64_w, i32_w]; rfl
           refine take_ (i := 11) (N := some 42) (v := ?_) (a' := ?_) kPr247 rfl rfl (take_ofW HT_.out HW_.out (by kernel_rfl)) (fun _ _ _ h => h) (Or.inl ⟨by rfl, ?_⟩) hHeld ?_ ?_; rotate_left
           ·rintro w' ⟨s0, s1⟩; go_simp; with_reducible rfl
           rotate_left
           ·simp only [Act.put, sA, sB, sC, i64_w, i32_w]; rfl
           refine pure_ (i := 12) (N := some 43) (v := ?_) (a' := ?_) kPr246 rfl rfl (any_of HT_.out (by kernel_rfl)) (fun _ _ _ h => h) (Or.inl ⟨by rfl, ?_⟩) ?_ ?_; rotate_left
           ·intro w'; go_simp; with_reducible rfl
           rotate_left
           ·simp only [Act.put, sA, sB, sC, i64_w, i32_w]; rfl
           refine pure_ (i := 13) (N := some 44) (v := ?_) (a' := ?_) kPr245 rfl rfl (any_of HT_.out (by kernel_rfl)) (fun _ _ _ h => h) (Or.inl ⟨by rfl, ?_⟩) ?_ ?_; rotate_left
           ·intro w'; go_simp; with_reducible rfl
           rotate_left
           ·simp only [Act.put, sA, sB, sC, i64_w, i32_w]; rfl
           refine pure_ (i := 14) (N := some 45) (v := ?_) (a' := ?_) kPr244 rfl rfl (any_of HT_.out (by kernel_rfl)) (fun _ _ _ h => h) (Or.inl ⟨by rfl, ?_⟩) ?_ ?_; rotate_left
           ·intro w'; go_simp; with_reducible rfl
           rotate_left
           ·simp only [Act.put, sA, sB, sC, i64_w, i32_w]; rfl
           refine one_ (i := 15) (N := some 46) kPr243 rfl rfl (one_of HT_.out (by kernel_rfl)) (by decide) (fun K hK => ?_); refine Kd.R_lit_step (Kd.int .u8) _ 5 ?hg (N := 46) ?hd (xs := ([(wrap64 (48 + (wrap64 (Int.tdiv (rd y264 x5_2) 10)))) % 256, (wrap64 (48 + (Int.tmod (rd y264 x5_2) 10))) % 256] : List Int)) (inner := [.int .u8 ((wrap64 (48 + (wrap64 (Int.tdiv (rd y264 x5_2) 10)))) % 256), .int .u8 ((wrap64 (48 + (Int.tmod (rd y264 x5_2) 10))) % 256)]) (ok := fun _ => True) (okp := fun _ => True) ?hr ?hp (fun _ hk => hk) trivial (Below.refl _ _) (Nat.le_refl _) (by simp) ?_; (case hd => rfl); (case hg => rfl); (case hr => first | (go_simp; done) | (go_simp; rfl)); (case hp => exact (Reps.one (show Kd.M (Kd.int .u8) _ _ _ ((wrap64 (48 + (wrap64 (Int.tdiv (rd y264 x5_2) 10)))) % 256) [.int .u8 ((wrap64 (48 + (wrap64 (Int.tdiv (rd y264 x5_2) 10)))) % 256)] from rfl) (Reps.one (show Kd.M (Kd.int .u8) _ _ _ ((wrap64 (48 + (Int.tmod (rd y264 x5_2) 10))) % 256) [.int .u8 ((wrap64 (48 + (Int.tmod (rd y264 x5_2) 10))) % 256)] from rfl) (Reps.none _ _)))); intro v275 w26 ho27 hb hg_ hnew_; have HS0_ := (hb.cell (World.block_lt_of_cell? _ _ (hHeld.1))).trans (hHeld.1); have HS1_ := (hb.cell (World.block_lt_of_cell? _ _ (hHeld.2))).trans (hHeld.2); clear hg_ hnew_; (first | rw [← Ny274.out] at ho27 | (simp only [Int.reduceToNat] at ho27; rw [← Ny274.out] at ho27)); have n0_ := Aside0.mk (Kd.R_below (by (with_reducible repeat (first | apply Kd.R_alloc | apply Kd.R_drewN | apply Kd.R_drew)); exact HO_4.out) hb); have n1_ := Aside0.mk (Kd.R_lower ho27 (below_size (by repeat (first | (with_reducible first | exact HB.out | apply below_alloc | apply pw_below_drewN | apply below_drew1) | exact HB.out)))); have n2_ := Aside0.mk (below_step (by repeat (first | (with_reducible first | exact HB.out | apply below_alloc | apply pw_below_drewN | apply below_drew1) | exact HB.out)) hb); clear HO_4; clear HB; have HO_4 := n0_; have HO276 := n1_; have HB := n2_; clear n0_ n1_ n2_; clear hb ho27; refine hK.out _ _ ⟨HS0_, HS1_⟩ (fun hHeld => ?_); clear hK K; refine norm_ (a' := ?_) ?_ ?_; rotate_left
           ·show Act.put _ (some 46) _ = _; simp only [Act.put, sA, sB, sC, i64_w, i32_w]; rfl
           refine last_ (i := 16) (N := some 47) kPr242 rfl rfl (one_of HT_.out (by kernel_rfl)) (by decide) (fun K hK => ?_); have hcv28 := own_string (P := Tryd.prog) Tryd.underlying70 Tryd.underlying5 Tryd.underlying9 (Kd.own_of_R HO276.out); refine value_ (w1 := ?_) (v := ?_) (by rfl) rfl ?_ ?_; rotate_left 2
           ·go_simp; constructor
            ·rfl
            ·rfl
           clear hcv28; refine hK.out _ _ ?_; clear hK K; refine norm_ (a' := ?_) ?_ ?_; rotate_left
           ·show Act.put _ (some 47) _ = _; simp only [Act.put, sA, sB, sC, i64_w, i32_w]; rfl
           refine pure_ (i := 17) (N := some 48) (v := ?_) (a' := ?_) kPr241 rfl rfl (any_of HT_.out (by kernel_rfl)) (fun _ _ _ h => h) (Or.inl ⟨by rfl, ?_⟩) ?_ ?_; rotate_left
           ·intro w'; go_simp; with_reducible rfl
           rotate_left
           ·simp only [Act.put, sA, sB, sC, i64_w, i32_w]; rfl
           refine pure_ (i := 18) (N := some 3) (v := ?_) (a' := ?_) kPr240 rfl rfl (any_of HT_.out (by kernel_rfl)) (fun _ _ _ h => h) (Or.inl ⟨by rfl, ?_⟩) ?_ ?_; rotate_left
           ·intro w'; go_simp; with_reducible rfl
           rotate_left
           ·simp only [Act.put, sA, sB, sC, i64_w, i32_w]; rfl
           refine done_ (done_of HT_.out (by kernel_rfl)) ?_; (try go_wp2); go_roundg k2
           case measure => have := HJ2.out; have := HK2.out; omega
           case rel => exact ⟨(x3_2 ++ (strOfNums y274)), (wrap64 (x5_2 + 1)), (by first | rfl | (simp; done) | (simp [*]; done)), (by first | rfl | (simp; done) | (simp [*]; done)), H', ⟨by have := HJ2.out; have := HK2.out; omega⟩, ⟨by (with_reducible repeat (first | apply Kd.R_alloc | apply Kd.R_drewN | apply Kd.R_drew)); exact HO_4.out⟩, ⟨by repeat (first | (with_reducible first | exact HB.out | apply below_alloc | apply pw_below_drewN | apply below_drew1) | exact HB.out)⟩⟩
          ·rw [if_neg c23] at H; exact absurd H (by simp)
         ·rw [if_neg c22] at H; exact absurd H (by simp)
        ·rw [if_neg c21] at H; exact absurd H (by simp)
      ·rw [if_neg c10] at H; have c10b0 : decide (x5_2 < 3) = false := decide_eq_false c10; clear c10; obtain rfl := Option.some.inj H; go_wp2; go_ret; exact ⟨by first | rfl | (simp [errW_none, errW_some] <;> rfl) | (simp [*, errW_none, errW_some] <;> rfl), by repeat (first | (with_reducible first | exact HB.out | apply below_alloc | apply pw_below_drewN | apply below_drew1) | exact HB.out)⟩

end Go.Proofs.YthlbdbaanlehhaaDoor.Pr

-- MENDED
