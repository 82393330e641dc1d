-- MINIFIED by wip/tools/minify.py
-- Written by this session's program wip/tools/pr.py out of the translation (with the kit's print.py). Not trusted: Lean checks it.
import Derived.Test.YthlbdbaanlehhaaDoorPr0
namespace Go.Proofs.YthlbdbaanlehhaaDoor.Pr
open Go.RowKit Go.Proofs.YthlbdbaanlehhaaDoorW.PrintWords Go.Proofs.YthlbdbaanlehhaaDoorW.PrintLast Go.Proofs.YthlbdbaanlehhaaDoorW.PrintMore
attribute [local go_sem] max2_int min2_int max_two min_two max_three min_three max_four min_four   -- for this text's walks alone
set_option linter.unusedVariables false
set_option linter.unusedSimpArgs false

/-! ### musterref10_Has: function 50 -/
def musterref10_Has.l0 : Nat → Int → Int → Int → Option (Bool)
 | 0, _, _, _ => none
 | k + 1, x0, x1, x5 => if x5 < x1 then (musterref10_Has.l0 k ((Int.tdiv x0 2) % 4294967296) x1 (wrap64 (x5 + 1))) else (if x1 ≥ 0 then (if x1 < 32 then (some ((Int.tmod x0 2) == 1)) else (some false)) else (some false))
def musterref10_Has.f (k : Nat) (a0 : Int) (a1 : Int) : Option (Bool) := musterref10_Has.l0 k a0 a1 0
theorem musterref10_Has.mono_l : ∀ k, (∀ y0 y1 y2, LeO (musterref10_Has.l0 k y0 y1 y2) (musterref10_Has.l0 (k + 1) y0 y1 y2))
 | 0 => fun _ _ _ r h => by simp [musterref10_Has.l0] at h
 | k + 1 => by
  have ih0 := musterref10_Has.mono_l k
  ·intro y0 y1 y2; unfold musterref10_Has.l0; repeat' first
   | (with_reducible exact ih0 _ _ _)
   | (with_reducible exact LeO.refl _)
   | (with_reducible exact LeO.none _)
   | (with_reducible refine LeO.ite ?_ ?_)
   | (with_reducible refine LeO.bind ?_ (fun _ => ?_))
   | exact ih0 _ _ _
   | exact LeO.none _
   | refine LeO.ite ?_ ?_
   | refine LeO.bind ?_ (fun _ => ?_)
theorem musterref10_Has.mono : ∀ a0 a1 k, LeO (musterref10_Has.f k a0 a1) (musterref10_Has.f (k + 1) a0 a1) := by
 intro a0 a1 k; have ih0 := musterref10_Has.mono_l k; unfold musterref10_Has.f
 repeat' first
   | (with_reducible exact ih0 _ _ _)
   | (with_reducible exact LeO.refl _)
   | (with_reducible exact LeO.none _)
   | (with_reducible refine LeO.ite ?_ ?_)
   | (with_reducible refine LeO.bind ?_ (fun _ => ?_))
   | exact ih0 _ _ _
   | exact LeO.none _
   | refine LeO.ite ?_ ?_
   | refine LeO.bind ?_ (fun _ => ?_)
set_option maxHeartbeats 8000000 in
set_option maxRecDepth 100000 in
theorem musterref10_Has.calls (k : Nat) (a0 : Int) (a1 : Int) (r : Bool) (w : World) (h : musterref10_Has.f k a0 a1 = some r) :
  Calls Tryd.prog 50 #[.int .u32 a0, .int .i64 a1] w fun e w' => e = .returned (.bool r) ∧ Drawn0 w w' := by
 have H : (musterref10_Has.l0 k a0 a1 0) = some r := h; clear h; have H' := Aside0.mk H; clear H; (go_enter Tryd.func50, Tryd.ntmps50); go_wp2; go_loopg [0, 5] k (fun kq v0 v5 w' => ∃ (x0_1 : Int) (x5_1 : Int), v0 = .int .u32 x0_1 ∧ v5 = .int .i64 x5_1 ∧ Aside0 (musterref10_Has.l0 kq x0_1 a1 x5_1 = some r) ∧ Aside0 (kq ≤ k) ∧ Drawn0 w w')
 case atStart => exact ⟨(a0), (0), (by first | rfl | (simp; done) | (simp [*]; done)), (by first | rfl | (simp; done) | (simp [*]; done)), H', ⟨Nat.le_refl _⟩, by repeat (first | exact Drawn0.refl _ | apply Drawn0.step)⟩
 case round =>
  clear H'; (try clear p2); obtain ⟨x0_1, x5_1, rfl, rfl, HA, HK1, ⟨m1, rfl⟩⟩ := hrel
  cases gk with
  | zero => exact absurd HA.out (by simp [musterref10_Has.l0])
  | succ k1 =>
   have H := HA.out; clear HA; simp only [musterref10_Has.l0] at H; by_cases c3 : x5_1 < a1
   ·rw [if_pos c3] at H; have c3b0 : decide (x5_1 < a1) = true := decide_eq_true c3; clear c3; have H' := Aside0.mk H; clear H; go_wp2; go_roundg k1
    case measure => have := HK1.out; omega
    case rel => exact ⟨((Int.tdiv x0_1 2) % 4294967296), (wrap64 (x5_1 + 1)), (by first | rfl | (simp; done) | (simp [*]; done)), (by first | rfl | (simp; done) | (simp [*]; done)), H', ⟨by have := HK1.out; omega⟩, by repeat (first | exact Drawn0.refl _ | apply Drawn0.step)⟩
   ·rw [if_neg c3] at H; have c3b0 : decide (x5_1 < a1) = false := decide_eq_false c3; clear c3; by_cases c4 : a1 ≥ 0
    ·rw [if_pos c4] at H; have c4b0 : decide (0 ≤ a1) = true := decide_eq_true c4; clear c4; by_cases c5 : a1 < 32
     ·rw [if_pos c5] at H; have c5b0 : decide (a1 < 32) = true := decide_eq_true c5; clear c5; obtain rfl := Option.some.inj H; go_wp2; go_ret; exact ⟨by first | rfl | (simp; done) | (simp [*]; done), by repeat (first | exact Drawn0.refl _ | apply Drawn0.step)⟩
     ·rw [if_neg c5] at H; have c5b0 : decide (a1 < 32) = false := decide_eq_false c5; clear c5; obtain rfl := Option.some.inj H; go_wp2; go_ret; exact ⟨by first | rfl | (simp; done) | (simp [*]; done), by repeat (first | exact Drawn0.refl _ | apply Drawn0.step)⟩
    ·rw [if_neg c4] at H; have c4b0 : decide (0 ≤ a1) = false := decide_eq_false c4; clear c4; obtain rfl := Option.some.inj H; go_wp2; go_ret; exact ⟨by first | rfl | (simp; done) | (simp [*]; done), by repeat (first | exact Drawn0.refl _ | apply Drawn0.step)⟩

/-! ### musterref10_digits: function 51 -/
def musterref10_digits.f (a0 : Int) : Option (ByteArray) := if a0 < 10 then (some (strOfNums (([(wrap64 (48 + a0)) % 256] : List Int)))) else (some (strOfNums (([(wrap64 (48 + (wrap64 (Int.tdiv a0 10)))) % 256, (wrap64 (48 + (Int.tmod a0 10))) % 256] : List Int))))
set_option maxHeartbeats 8000000 in
set_option maxRecDepth 100000 in
theorem musterref10_digits.calls (a0 : Int) (r : ByteArray) (w : World) (h : musterref10_digits.f a0 = some r) :
  Calls Tryd.prog 51 #[.int .i64 a0] w fun e w' => e = .returned (.string r) ∧ Below w.heap.size w w' := by
 have HB := Aside0.mk (Below.refl w.heap.size w); have H : (if a0 < 10 then (some (strOfNums (([(wrap64 (48 + a0)) % 256] : List Int)))) else (some (strOfNums (([(wrap64 (48 + (wrap64 (Int.tdiv a0 10)))) % 256, (wrap64 (48 + (Int.tmod a0 10))) % 256] : List Int))))) = some r := h; clear h; by_cases c2 : a0 < 10
 ·rw [if_pos c2] at H; have c2b0 : decide (a0 < 10) = true := decide_eq_true c2; clear c2; (obtain ⟨y277, hy277⟩ : ∃ y_ : List Int, y_ = (([(wrap64 (48 + a0)) % 256] : List Int)) := ⟨_, rfl⟩); (replace H : (some (strOfNums y277)) = some r := by first | (rw [hy277]; with_reducible exact H) | (have H2_ := (Option.bind_some _ _).symm.trans H; rw [hy277]; with_reducible exact H2_) | (have H2_ := (Option.bind_some _ _).symm.trans H; with_reducible exact H2_) | with_reducible exact H | (rw [hy277]; exact H) | exact H); have Ny277 := Aside0.mk hy277; clear hy277; obtain rfl := Option.some.inj H; (go_enter Tryd.func51, Tryd.ntmps51); (go_wp2_with (first | ((with_reducible refine gate_dst (N := 8) rfl ?_); refine Kd.R_lit (Kd.int .u8) _ 5 ?hg (N := 8) ?hd (xs := ([(wrap64 (48 + a0)) % 256] : List Int)) (inner := [.int .u8 ((wrap64 (48 + a0)) % 256)]) (ok := fun _ => True) (okp := fun _ => True) ?hr ?hp (fun _ hk => hk) trivial (Below.refl _ _) (Nat.le_refl _) (by simp) ?_; (case hd => rfl); (case hg => rfl); (case hr => first | (go_simp; done) | (go_simp; rfl)); (case hp => exact (Reps.one (show Kd.M (Kd.int .u8) _ _ _ ((wrap64 (48 + a0)) % 256) [.int .u8 ((wrap64 (48 + a0)) % 256)] from rfl) (Reps.none _ _))); intro v278 w3 ho4 hb hg_ hnew_; clear hg_ hnew_; (first | rw [← Ny277.out] at ho4 | (simp only [Int.reduceToNat] at ho4; rw [← Ny277.out] at ho4)); have n0_ := Aside0.mk (Kd.R_lower ho4 (below_size (by repeat (first | (with_reducible first | exact HB.out | apply below_alloc | apply pw_below_drewN | apply below_drew1) | exact HB.out)))); have n1_ := Aside0.mk (below_step (by repeat (first | (with_reducible first | exact HB.out | apply below_alloc | apply pw_below_drewN | apply below_drew1) | exact HB.out)) hb); clear HB; have HO279 := n0_; have HB := n1_; clear n0_ n1_; clear hb ho4; have hcv5 := own_string (P := Tryd.prog) Tryd.underlying70 Tryd.underlying5 Tryd.underlying9 (Kd.own_of_R HO279.out)))); go_ret; exact ⟨by first | rfl | (simp [errW_none, errW_some] <;> rfl) | (simp [*, errW_none, errW_some] <;> rfl), by repeat (first | (with_reducible first | exact HB.out | apply below_alloc | apply pw_below_drewN | apply below_drew1) | exact HB.out)⟩
 ·rw [if_neg c2] at H; have c2b0 : decide (a0 < 10) = false := decide_eq_false c2; clear c2; (obtain ⟨y280, hy280⟩ : ∃ y_ : List Int, y_ = (([(wrap64 (48 + (wrap64 (Int.tdiv a0 10)))) % 256, (wrap64 (48 + (Int.tmod a0 10))) % 256] : List Int)) := ⟨_, rfl⟩); (replace H : (some (strOfNums y280)) = some r := by first | (rw [hy280]; with_reducible exact H) | (have H2_ := (Option.bind_some _ _).symm.trans H; rw [hy280]; with_reducible exact H2_) | (have H2_ := (Option.bind_some _ _).symm.trans H; with_reducible exact H2_) | with_reducible exact H | (rw [hy280]; exact H) | exact H); have Ny280 := Aside0.mk hy280; clear hy280; obtain rfl := Option.some.inj H; (go_enter Tryd.func51, Tryd.ntmps51); (go_wp2_with (first | ((with_reducible refine gate_dst (N := 18) rfl ?_); refine Kd.R_lit (Kd.int .u8) _ 5 ?hg (N := 18) ?hd (xs := ([(wrap64 (48 + (wrap64 (Int.tdiv a0 10)))) % 256, (wrap64 (48 + (Int.tmod a0 10))) % 256] : List Int)) (inner := [.int .u8 ((wrap64 (48 + (wrap64 (Int.tdiv a0 10)))) % 256), .int .u8 ((wrap64 (48 + (Int.tmod a0 10))) % 256)]) (ok := fun _ => True) (okp := fun _ => True) ?hr ?hp (fun _ hk => hk) trivial (Below.refl _ _) (Nat.le_refl _) (by simp) ?_; (case hd => rfl); (case hg => rfl); (case hr => first | (go_simp; done) | (go_simp; rfl)); (case hp => exact (Reps.one (show Kd.M (Kd.int .u8) _ _ _ ((wrap64 (48 + (wrap64 (Int.tdiv a0 10)))) % 256) [.int .u8 ((wrap64 (48 + (wrap64 (Int.tdiv a0 10)))) % 256)] from rfl) (Reps.one (show Kd.M (Kd.int .u8) _ _ _ ((wrap64 (48 + (Int.tmod a0 10))) % 256) [.int .u8 ((wrap64 (48 + (Int.tmod a0 10))) % 256)] from rfl) (Reps.none _ _)))); intro v281 w6 ho7 hb hg_ hnew_; clear hg_ hnew_; (first | rw [← Ny280.out] at ho7 | (simp only [Int.reduceToNat] at ho7; rw [← Ny280.out] at ho7)); have n0_ := Aside0.mk (Kd.R_lower ho7 (below_size (by repeat (first | (with_reducible first | exact HB.out | apply below_alloc | apply pw_below_drewN | apply below_drew1) | exact HB.out)))); have n1_ := Aside0.mk (below_step (by repeat (first | (with_reducible first | exact HB.out | apply below_alloc | apply pw_below_drewN | apply below_drew1) | exact HB.out)) hb); clear HB; have HO282 := n0_; have HB := n1_; clear n0_ n1_; clear hb ho7; have hcv8 := own_string (P := Tryd.prog) Tryd.underlying70 Tryd.underlying5 Tryd.underlying9 (Kd.own_of_R HO282.out)))); go_ret; exact ⟨by first | rfl | (simp [errW_none, errW_some] <;> rfl) | (simp [*, errW_none, errW_some] <;> rfl), by repeat (first | (with_reducible first | exact HB.out | apply below_alloc | apply pw_below_drewN | apply below_drew1) | exact HB.out)⟩

/-! ### musterref10_Print: function 39 -/
mutual
def musterref10_Print.l0 : Nat → Int → ByteArray → Int → Option (ByteArray)
 | 0, _, _, _ => none
 | k + 1, x0, x3, x4 => if x4 < 32 then ((musterref10_Has.f k x0 x4).bind fun t283 => (if t283 = true then ((musterref10_Has.f k x0 (wrap64 (x4 - 1))).bind fun t284 => (musterref10_Print.j1 k x0 x3 x4 t284)) else (musterref10_Print.j1 k x0 x3 x4 true))) else (if x3.toList = ([] : List UInt8) then (some (⟨#[110, 111, 110, 101]⟩ : ByteArray)) else (some x3))
def musterref10_Print.j1 : Nat → Int → ByteArray → Int → Bool → Option (ByteArray)
 | 0, _, _, _, _ => none
 | k + 1, x0, x3, x4, x19 => if x19 = true then (musterref10_Print.l0 k x0 x3 (wrap64 (x4 + 1))) else (musterref10_Print.l1 k x0 x3 x4 x4)
def musterref10_Print.l1 : Nat → Int → ByteArray → Int → Int → Option (ByteArray)
 | 0, _, _, _, _ => none
 | k + 1, x0, x3, x4, x5 => (musterref10_Has.f k x0 (wrap64 (x5 + 1))).bind fun t285 => (if t285 = true then (musterref10_Print.l1 k x0 x3 x4 (wrap64 (x5 + 1))) else (if x3.toList = ([] : List UInt8) then (musterref10_Print.j3 k x0 x3 x4 x5) else (if x3.size + 1 ≤ 9223372036854775807 then (musterref10_Print.j3 k x0 (x3 ++ (⟨#[44]⟩ : ByteArray)) x4 x5) else (none))))
def musterref10_Print.j3 : Nat → Int → ByteArray → Int → Int → Option (ByteArray)
 | 0, _, _, _, _ => none
 | k + 1, x0, x3, x4, x5 => (musterref10_digits.f x4).bind fun t286 => (if x3.size + t286.size ≤ 9223372036854775807 then (if x5 > x4 then (if (x3 ++ t286).size + 1 ≤ 9223372036854775807 then ((musterref10_digits.f x5).bind fun t287 => (if ((x3 ++ t286) ++ (⟨#[45]⟩ : ByteArray)).size + t287.size ≤ 9223372036854775807 then (musterref10_Print.l0 k x0 (((x3 ++ t286) ++ (⟨#[45]⟩ : ByteArray)) ++ t287) (wrap64 (x4 + 1))) else (none))) else (none)) else (musterref10_Print.l0 k x0 (x3 ++ t286) (wrap64 (x4 + 1)))) else (none))
end
def musterref10_Print.f (k : Nat) (a0 : Int) : Option (ByteArray) := musterref10_Print.l0 k a0 (⟨#[]⟩ : ByteArray) 0
theorem musterref10_Print.mono_l : ∀ k, (∀ y0 y1 y2, LeO (musterref10_Print.l0 k y0 y1 y2) (musterref10_Print.l0 (k + 1) y0 y1 y2)) ∧ (∀ y0 y1 y2 y3, LeO (musterref10_Print.j1 k y0 y1 y2 y3) (musterref10_Print.j1 (k + 1) y0 y1 y2 y3)) ∧ (∀ y0 y1 y2 y3, LeO (musterref10_Print.l1 k y0 y1 y2 y3) (musterref10_Print.l1 (k + 1) y0 y1 y2 y3)) ∧ (∀ y0 y1 y2 y3, LeO (musterref10_Print.j3 k y0 y1 y2 y3) (musterref10_Print.j3 (k + 1) y0 y1 y2 y3))
 | 0 => ⟨fun _ _ _ r h => by simp [musterref10_Print.l0] at h, fun _ _ _ _ r h => by simp [musterref10_Print.j1] at h, fun _ _ _ _ r h => by simp [musterref10_Print.l1] at h, fun _ _ _ _ r h => by simp [musterref10_Print.j3] at h⟩
 | k + 1 => by
  obtain ⟨ih0, ih1, ih2, ih3⟩ := musterref10_Print.mono_l k; refine ⟨?_, ?_, ?_, ?_⟩
  ·intro y0 y1 y2; unfold musterref10_Print.l0; repeat' first
   | (with_reducible exact ih0 _ _ _)
   | (with_reducible exact ih1 _ _ _ _)
   | (with_reducible exact ih2 _ _ _ _)
   | (with_reducible exact ih3 _ _ _ _)
   | (with_reducible exact musterref10_Has.mono _ _ _)
   | (with_reducible exact LeO.refl _)
   | (with_reducible exact LeO.none _)
   | (with_reducible refine LeO.ite ?_ ?_)
   | (with_reducible refine LeO.bind ?_ (fun _ => ?_))
   | exact ih0 _ _ _
   | exact ih1 _ _ _ _
   | exact ih2 _ _ _ _
   | exact ih3 _ _ _ _
   | exact musterref10_Has.mono _ _ _
   | exact LeO.none _
   | refine LeO.ite ?_ ?_
   | refine LeO.bind ?_ (fun _ => ?_)
  ·intro y0 y1 y2 y3; unfold musterref10_Print.j1; repeat' first
   | (with_reducible exact ih0 _ _ _)
   | (with_reducible exact ih1 _ _ _ _)
   | (with_reducible exact ih2 _ _ _ _)
   | (with_reducible exact ih3 _ _ _ _)
   | (with_reducible exact musterref10_Has.mono _ _ _)
   | (with_reducible exact LeO.refl _)
   | (with_reducible exact LeO.none _)
   | (with_reducible refine LeO.ite ?_ ?_)
   | (with_reducible refine LeO.bind ?_ (fun _ => ?_))
   | exact ih0 _ _ _
   | exact ih1 _ _ _ _
   | exact ih2 _ _ _ _
   | exact ih3 _ _ _ _
   | exact musterref10_Has.mono _ _ _
   | exact LeO.none _
   | refine LeO.ite ?_ ?_
   | refine LeO.bind ?_ (fun _ => ?_)
  ·intro y0 y1 y2 y3; unfold musterref10_Print.l1; repeat' first
   | (with_reducible exact ih0 _ _ _)
   | (with_reducible exact ih1 _ _ _ _)
   | (with_reducible exact ih2 _ _ _ _)
   | (with_reducible exact ih3 _ _ _ _)
   | (with_reducible exact musterref10_Has.mono _ _ _)
   | (with_reducible exact LeO.refl _)
   | (with_reducible exact LeO.none _)
   | (with_reducible refine LeO.ite ?_ ?_)
   | (with_reducible refine LeO.bind ?_ (fun _ => ?_))
   | exact ih0 _ _ _
   | exact ih1 _ _ _ _
   | exact ih2 _ _ _ _
   | exact ih3 _ _ _ _
   | exact musterref10_Has.mono _ _ _
   | exact LeO.none _
   | refine LeO.ite ?_ ?_
   | refine LeO.bind ?_ (fun _ => ?_)
  ·intro y0 y1 y2 y3; unfold musterref10_Print.j3; repeat' first
   | (with_reducible exact ih0 _ _ _)
   | (with_reducible exact ih1 _ _ _ _)
   | (with_reducible exact ih2 _ _ _ _)
   | (with_reducible exact ih3 _ _ _ _)
   | (with_reducible exact musterref10_Has.mono _ _ _)
   | (with_reducible exact LeO.refl _)
   | (with_reducible exact LeO.none _)
   | (with_reducible refine LeO.ite ?_ ?_)
   | (with_reducible refine LeO.bind ?_ (fun _ => ?_))
   | exact ih0 _ _ _
   | exact ih1 _ _ _ _
   | exact ih2 _ _ _ _
   | exact ih3 _ _ _ _
   | exact musterref10_Has.mono _ _ _
   | exact LeO.none _
   | refine LeO.ite ?_ ?_
   | refine LeO.bind ?_ (fun _ => ?_)
theorem musterref10_Print.mono : ∀ a0 k, LeO (musterref10_Print.f k a0) (musterref10_Print.f (k + 1) a0) := by
 intro a0 k; obtain ⟨ih0, ih1, ih2, ih3⟩ := musterref10_Print.mono_l k; unfold musterref10_Print.f
 repeat' first
   | (with_reducible exact ih0 _ _ _)
   | (with_reducible exact ih1 _ _ _ _)
   | (with_reducible exact ih2 _ _ _ _)
   | (with_reducible exact ih3 _ _ _ _)
   | (with_reducible exact musterref10_Has.mono _ _ _)
   | (with_reducible exact LeO.refl _)
   | (with_reducible exact LeO.none _)
   | (with_reducible refine LeO.ite ?_ ?_)
   | (with_reducible refine LeO.bind ?_ (fun _ => ?_))
   | exact ih0 _ _ _
   | exact ih1 _ _ _ _
   | exact ih2 _ _ _ _
   | exact ih3 _ _ _ _
   | exact musterref10_Has.mono _ _ _
   | exact LeO.none _
   | refine LeO.ite ?_ ?_
   | refine LeO.bind ?_ (fun _ => ?_)
set_option maxHeartbeats 8000000 in
set_option maxRecDepth 100000 in
theorem musterref10_Print.calls (k : Nat) (a0 : Int) (r : ByteArray) (w : World) (h : musterref10_Print.f k a0 = some r) :
  Calls Tryd.prog 39 #[.int .u32 a0] w fun e w' => e = .returned (.string r) ∧ Below w.heap.size w w' := by
 have HB := Aside0.mk (Below.refl w.heap.size w); have H : (musterref10_Print.l0 k a0 (⟨#[]⟩ : ByteArray) 0) = some r := h; clear h; have H' := Aside0.mk H; clear H; (go_enter Tryd.func39, Tryd.ntmps39); go_wp2; go_loopg [3, 4] k (fun kq v3 v4 w' => ∃ (x3_1 : ByteArray) (x4_1 : Int), v3 = .string x3_1 ∧ v4 = .int .i64 x4_1 ∧ Aside0 (musterref10_Print.l0 kq a0 x3_1 x4_1 = some r) ∧ Aside0 (kq ≤ k) ∧ Aside0 (Below w.heap.size w w'))
 case atStart => exact ⟨((⟨#[]⟩ : ByteArray)), (0), (by first | rfl | (simp; done) | (simp [*]; done)), (by first | rfl | (simp; done) | (simp [*]; done)), H', ⟨Nat.le_refl _⟩, ⟨by repeat (first | (with_reducible first | exact HB.out | apply below_alloc | apply pw_below_drewN | apply below_drew1) | exact HB.out)⟩⟩
 case round =>
  clear H'; obtain ⟨x3_1, x4_1, rfl, rfl, HA, HK1, HB⟩ := hrel
  cases gk with
  | zero => exact absurd HA.out (by simp [musterref10_Print.l0])
  | succ k1 =>
   have H := HA.out; clear HA; simp only [musterref10_Print.l0] at H; by_cases c2 : x4_1 < 32
   ·rw [if_pos c2] at H; have c2b0 : decide (x4_1 < 32) = true := decide_eq_true c2; clear c2; have HC3 := Aside0.mk H; clear H; (go_upto_region 5 with (fail)); go_cut [19] (fun v19 wc => ∃ (kq : Nat) (x19_2 : Bool), v19 = .bool x19_2 ∧ Aside0 (musterref10_Print.j1 kq a0 x3_1 x4_1 x19_2 = some r) ∧ Aside0 (kq ≤ k1) ∧ Aside0 (Below w.heap.size w wc))
    case first =>
     have H := HC3.out; clear HC3; replace H := Option.bind_eq_some_iff.mp H; obtain ⟨t283, A40, H⟩ := H; replace H : (if t283 = true then ((musterref10_Has.f k1 a0 (wrap64 (x4_1 - 1))).bind fun t284 => (musterref10_Print.j1 k1 a0 x3_1 x4_1 t284)) else (musterref10_Print.j1 k1 a0 x3_1 x4_1 true)) = some r := H; have A4 := Aside0.mk A40; clear A40; by_cases c5 : t283 = true
     ·subst c5; (have H1 : ((musterref10_Has.f k1 a0 (wrap64 (x4_1 - 1))).bind fun t284 => (musterref10_Print.j1 k1 a0 x3_1 x4_1 t284)) = some r := by rw [if_pos rfl] at H; exact H); clear H; have H := H1; clear H1; replace H := Option.bind_eq_some_iff.mp H; obtain ⟨t284, A60, H⟩ := H; replace H : (musterref10_Print.j1 k1 a0 x3_1 x4_1 t284) = some r := H; have A6 := Aside0.mk A60; clear A60; have H' := Aside0.mk H; clear H; (go_wp2_with (first | ((with_reducible refine gate_callee (f := 50) rfl ?_); refine goesL_ (some 12) rfl rfl Tryd.func50 (by kernel_rfl) rfl #[.int .u32 a0, .int .i64 x4_1] rfl (by (try simp only [List.map_toArray, List.map_cons, List.map_nil]); first | done | rfl | (simp only [List.length_drop, List.length_take]; rfl)) ?_; (with_reducible refine (musterref10_Has.calls k1 a0 x4_1 true _ A4.out).mono ?_); rintro e w' ⟨rfl, ⟨nd, rfl⟩⟩; refine ⟨_, rfl, ?_⟩) | (go_at_call 50; (with_reducible refine (musterref10_Has.calls k1 a0 (wrap64 (x4_1 - 1)) t284 _ A6.out).mono ?_); rintro e w' ⟨rfl, ⟨nd, rfl⟩⟩))); go_meet
      case rel => exact ⟨_, (t284), (by first | rfl | (simp; done) | (simp [*]; done)), H', ⟨by have := HK1.out; first | omega | exact Nat.le_refl _⟩, ⟨by repeat (first | (with_reducible first | exact HB.out | apply below_alloc | apply pw_below_drewN | apply below_drew1) | exact HB.out)⟩⟩
     ·replace c5 := Bool.eq_false_iff.mpr c5; subst c5; (have H1 : (musterref10_Print.j1 k1 a0 x3_1 x4_1 true) = some r := by rw [if_neg (show ¬ (false = true) by decide)] at H; exact H); clear H; have H := H1; clear H1; have H' := Aside0.mk H; clear H; (go_wp2_with (first | ((with_reducible refine gate_callee (f := 50) rfl ?_); refine goesL_ (some 12) rfl rfl Tryd.func50 (by kernel_rfl) rfl #[.int .u32 a0, .int .i64 x4_1] rfl (by (try simp only [List.map_toArray, List.map_cons, List.map_nil]); first | done | rfl | (simp only [List.length_drop, List.length_take]; rfl)) ?_; (with_reducible refine (musterref10_Has.calls k1 a0 x4_1 false _ A4.out).mono ?_); rintro e w' ⟨rfl, ⟨nd, rfl⟩⟩; refine ⟨_, rfl, ?_⟩))); go_meet
      case rel => exact ⟨_, (true), (by first | rfl | (simp; done) | (simp [*]; done)), H', ⟨by have := HK1.out; first | omega | exact Nat.le_refl _⟩, ⟨by repeat (first | (with_reducible first | exact HB.out | apply below_alloc | apply pw_below_drewN | apply below_drew1) | exact HB.out)⟩⟩
    case rest =>
     clear HC3; (try clear c2); (try clear c2b0); (try clear p2); (try clear c3); (try clear c5); (try clear p6); obtain ⟨kq, x19_2, rfl, HA, HJ2, HB⟩ := hcut
     cases kq with
     | zero => exact absurd HA.out (by simp [musterref10_Print.j1])
     | succ kj2 =>
      have H := HA.out; clear HA; simp only [musterref10_Print.j1] at H; by_cases c7 : x19_2 = true
      ·subst c7; (have H1 : (musterref10_Print.l0 kj2 a0 x3_1 (wrap64 (x4_1 + 1))) = some r := by rw [if_pos rfl] at H; exact H); clear H; have H := H1; clear H1; have H' := Aside0.mk H; clear H; go_wp2; go_roundg kj2
       case measure => have := HK1.out; have := HJ2.out; omega
       case rel => exact ⟨(x3_1), (wrap64 (x4_1 + 1)), (by first | rfl | (simp; done) | (simp [*]; done)), (by first | rfl | (simp; done) | (simp [*]; done)), H', ⟨by have := HK1.out; have := HJ2.out; omega⟩, ⟨by repeat (first | (with_reducible first | exact HB.out | apply below_alloc | apply pw_below_drewN | apply below_drew1) | exact HB.out)⟩⟩
      ·replace c7 := Bool.eq_false_iff.mpr c7; subst c7; (have H1 : (musterref10_Print.l1 kj2 a0 x3_1 x4_1 x4_1) = some r := by rw [if_neg (show ¬ (false = true) by decide)] at H; exact H); clear H; have H := H1; clear H1; have H' := Aside0.mk H; clear H; go_wp2; go_loopg [5] kj2 (fun kq v5 w' => ∃ (x5_3 : Int), v5 = .int .i64 x5_3 ∧ Aside0 (musterref10_Print.l1 kq a0 x3_1 x4_1 x5_3 = some r) ∧ Aside0 (kq ≤ kj2) ∧ Aside0 (Below w.heap.size w w'))
       case atStart => exact ⟨(x4_1), (by first | rfl | (simp; done) | (simp [*]; done)), H', ⟨Nat.le_refl _⟩, ⟨by repeat (first | (with_reducible first | exact HB.out | apply below_alloc | apply pw_below_drewN | apply below_drew1) | exact HB.out)⟩⟩
       case round =>
        clear H'; (try clear c2); (try clear c2b0); (try clear p2); (try clear c3); (try clear c5); (try clear p6); (try clear c7); (try clear p2); (try clear p6); obtain ⟨x5_3, rfl, HA, HK3, HB⟩ := hrel
        cases gk with
        | zero => exact absurd HA.out (by simp [musterref10_Print.l1])
        | succ k3 =>
         have H := HA.out; clear HA; simp only [musterref10_Print.l1] at H; replace H := Option.bind_eq_some_iff.mp H; obtain ⟨t285, A80, H⟩ := H; replace H : (if t285 = true then (musterref10_Print.l1 k3 a0 x3_1 x4_1 (wrap64 (x5_3 + 1))) else (if x3_1.toList = ([] : List UInt8) then (musterref10_Print.j3 k3 a0 x3_1 x4_1 x5_3) else (if x3_1.size + 1 ≤ 9223372036854775807 then (musterref10_Print.j3 k3 a0 (x3_1 ++ (⟨#[44]⟩ : ByteArray)) x4_1 x5_3) else (none)))) = some r := H; have A8 := Aside0.mk A80; clear A80; by_cases c9 : t285 = true
         ·subst c9; (have H1 : (musterref10_Print.l1 k3 a0 x3_1 x4_1 (wrap64 (x5_3 + 1))) = some r := by rw [if_pos rfl] at H; exact H); clear H; have H := H1; clear H1; have H' := Aside0.mk H; clear H; (go_wp2_with (first | ((with_reducible refine gate_callee (f := 50) rfl ?_); refine goesL_ (some 24) rfl rfl Tryd.func50 (by kernel_rfl) rfl #[.int .u32 a0, .int .i64 (wrap64 (x5_3 + 1))] rfl (by (try simp only [List.map_toArray, List.map_cons, List.map_nil]); first | done | rfl | (simp only [List.length_drop, List.length_take]; rfl)) ?_; (with_reducible refine (musterref10_Has.calls k3 a0 (wrap64 (x5_3 + 1)) true _ A8.out).mono ?_); rintro e w' ⟨rfl, ⟨nd, rfl⟩⟩; refine ⟨_, rfl, ?_⟩))); go_roundg k3
          case measure => have := HK1.out; have := HJ2.out; have := HK3.out; omega
          case rel => exact ⟨(wrap64 (x5_3 + 1)), (by first | rfl | (simp; done) | (simp [*]; done)), H', ⟨by have := HK1.out; have := HJ2.out; have := HK3.out; omega⟩, ⟨by repeat (first | (with_reducible first | exact HB.out | apply below_alloc | apply pw_below_drewN | apply below_drew1) | exact HB.out)⟩⟩
         ·replace c9 := Bool.eq_false_iff.mpr c9; subst c9; (have H1 : (if x3_1.toList = ([] : List UInt8) then (musterref10_Print.j3 k3 a0 x3_1 x4_1 x5_3) else (if x3_1.size + 1 ≤ 9223372036854775807 then (musterref10_Print.j3 k3 a0 (x3_1 ++ (⟨#[44]⟩ : ByteArray)) x4_1 x5_3) else (none))) = some r := by rw [if_neg (show ¬ (false = true) by decide)] at H; exact H); clear H; have H := H1; clear H1; have HC10 := Aside0.mk H; clear H; (go_upto_if 28 with (first | ((with_reducible refine gate_callee (f := 50) rfl ?_); refine goesL_ (some 24) rfl rfl Tryd.func50 (by kernel_rfl) rfl #[.int .u32 a0, .int .i64 (wrap64 (x5_3 + 1))] rfl (by (try simp only [List.map_toArray, List.map_cons, List.map_nil]); first | done | rfl | (simp only [List.length_drop, List.length_take]; rfl)) ?_; (with_reducible refine (musterref10_Has.calls k3 a0 (wrap64 (x5_3 + 1)) false _ A8.out).mono ?_); rintro e w' ⟨rfl, ⟨nd, rfl⟩⟩; refine ⟨_, rfl, ?_⟩))); (try simp only [Act.put, sA, sB, sC]); go_cut [3] (fun v3 wc => ∃ (kq : Nat) (x3_9 : ByteArray), v3 = .string x3_9 ∧ Aside0 (musterref10_Print.j3 kq a0 x3_9 x4_1 x5_3 = some r) ∧ Aside0 (kq ≤ k3) ∧ Aside0 (Below w.heap.size w wc))
          case first =>
           have H := HC10.out; clear HC10; by_cases c11 : x3_1.toList = ([] : List UInt8)
           ·rw [if_pos c11] at H; have c11b0 : (x3_1.toList == ([] : List UInt8)) = true := beq_iff_eq.mpr c11; have c11e : x3_1.toList.isEmpty = true := List.isEmpty_iff.mpr c11; have c11b1 : (x3_1.toList != ([] : List UInt8)) = false := bne_eq_false_iff_eq.mpr c11; clear c11; (first | rw [c11b0] | (simp only [i64_w, i32_w]; rw [c11b0]) | (rw [c11e]; try dsimp only [Bool.not_true, Bool.not_false]) | skip); have H' := Aside0.mk H; clear H; go_wp2; go_meet
            case rel => exact ⟨_, (x3_1), (by first | rfl | (simp; done) | (simp [*]; done)), H', ⟨by have := HK1.out; have := HJ2.out; have := HK3.out; first | omega | exact Nat.le_refl _⟩, ⟨by repeat (first | (with_reducible first | exact HB.out | apply below_alloc | apply pw_below_drewN | apply below_drew1) | exact HB.out)⟩⟩
           ·rw [if_neg c11] at H; have c11b0 : (x3_1.toList == ([] : List UInt8)) = false := beq_eq_false_iff_ne.mpr c11; have c11e : x3_1.toList.isEmpty = false := List.isEmpty_eq_false_iff.mpr c11; have c11b1 : (x3_1.toList != ([] : List UInt8)) = true := bne_iff_ne.mpr c11; (first | rw [c11b0] | (simp only [i64_w, i32_w]; rw [c11b0]) | (rw [c11e]; try dsimp only [Bool.not_true, Bool.not_false]) | skip); by_cases c12 : x3_1.size + 1 ≤ 9223372036854775807
            ·rw [if_pos c12] at H; have c12b0 := eq_true c12; have c12b1 : decide (x3_1.size + 1 ≤ 9223372036854775807) = true := decide_eq_true c12; (try have c12b2 : (9223372036854775807 < x3_1.size + 1) = False := eq_false (Nat.not_lt.2 c12)); have H' := Aside0.mk H; clear H; go_wp2; go_meet
             case rel => exact ⟨_, (x3_1 ++ (⟨#[44]⟩ : ByteArray)), (by first | rfl | (simp; done) | (simp [*]; done)), H', ⟨by have := HK1.out; have := HJ2.out; have := HK3.out; first | omega | exact Nat.le_refl _⟩, ⟨by repeat (first | (with_reducible first | exact HB.out | apply below_alloc | apply pw_below_drewN | apply below_drew1) | exact HB.out)⟩⟩
            ·rw [if_neg c12] at H; exact absurd H (by simp)
          case rest =>
           clear HC10; (try clear c1); (try clear c2); (try clear c2b0); (try clear p2); (try clear c3); (try clear c5); (try clear p6); (try clear c7); (try clear c9); (try clear c11); (try clear c11b0); (try clear c11b1); (try clear c12); (try clear c12b0); (try clear c12b1); (try clear c12b2); (try clear p2); (try clear p6); obtain ⟨kq, x3_9, rfl, HA, HJ9, HB⟩ := hcut
           cases kq with
           | zero => exact absurd HA.out (by simp [musterref10_Print.j3])
           | succ kj9 =>
            have H := HA.out; clear HA; simp only [musterref10_Print.j3] at H; replace H := Option.bind_eq_some_iff.mp H; obtain ⟨t286, A130, H⟩ := H; replace H : (if x3_9.size + t286.size ≤ 9223372036854775807 then (if x5_3 > x4_1 then (if (x3_9 ++ t286).size + 1 ≤ 9223372036854775807 then ((musterref10_digits.f x5_3).bind fun t287 => (if ((x3_9 ++ t286) ++ (⟨#[45]⟩ : ByteArray)).size + t287.size ≤ 9223372036854775807 then (musterref10_Print.l0 kj9 a0 (((x3_9 ++ t286) ++ (⟨#[45]⟩ : ByteArray)) ++ t287) (wrap64 (x4_1 + 1))) else (none))) else (none)) else (musterref10_Print.l0 kj9 a0 (x3_9 ++ t286) (wrap64 (x4_1 + 1)))) else (none)) = some r := H; have A13 := Aside0.mk A130; clear A130; by_cases c14 : x3_9.size + t286.size ≤ 9223372036854775807
            ·rw [if_pos c14] at H; have c14b0 := eq_true c14; have c14b1 : decide (x3_9.size + t286.size ≤ 9223372036854775807) = true := decide_eq_true c14; (try have c14b2 : (9223372036854775807 < x3_9.size + t286.size) = False := eq_false (Nat.not_lt.2 c14)); by_cases c15 : x5_3 > x4_1
             ·rw [if_pos c15] at H; have c15b0 : decide (x4_1 < x5_3) = true := decide_eq_true c15; clear c15; by_cases c16 : (x3_9 ++ t286).size + 1 ≤ 9223372036854775807
              ·rw [if_pos c16] at H; have c16b0 := eq_true c16; have c16b1 : decide ((x3_9 ++ t286).size + 1 ≤ 9223372036854775807) = true := decide_eq_true c16; (have c16m0 : (x3_9.size + t286.size + 1 ≤ 9223372036854775807) = True := by have h_ := c16; simp only [ByteArray.size_append] at h_; exact eq_true h_); (have c16m1 : (9223372036854775807 < x3_9.size + t286.size + 1) = False := by have h_ := c16; simp only [ByteArray.size_append] at h_; exact eq_false (Nat.not_lt.2 h_)); (try have c16b2 : (9223372036854775807 < (x3_9 ++ t286).size + 1) = False := eq_false (Nat.not_lt.2 c16)); replace H := Option.bind_eq_some_iff.mp H; obtain ⟨t287, A170, H⟩ := H; replace H : (if ((x3_9 ++ t286) ++ (⟨#[45]⟩ : ByteArray)).size + t287.size ≤ 9223372036854775807 then (musterref10_Print.l0 kj9 a0 (((x3_9 ++ t286) ++ (⟨#[45]⟩ : ByteArray)) ++ t287) (wrap64 (x4_1 + 1))) else (none)) = some r := H; have A17 := Aside0.mk A170; clear A170; by_cases c18 : ((x3_9 ++ t286) ++ (⟨#[45]⟩ : ByteArray)).size + t287.size ≤ 9223372036854775807
               ·rw [if_pos c18] at H; have c18b0 := eq_true c18; have c18b1 : decide (((x3_9 ++ t286) ++ (⟨#[45]⟩ : ByteArray)).size + t287.size ≤ 9223372036854775807) = true := decide_eq_true c18; (have c18m0 : (x3_9.size + t286.size + 1 + t287.size ≤ 9223372036854775807) = True := by have h_ := c18; simp only [ByteArray.size_append] at h_; exact eq_true h_); (have c18m1 : (9223372036854775807 < x3_9.size + t286.size + 1 + t287.size) = False := by have h_ := c18; simp only [ByteArray.size_append] at h_; exact eq_false (Nat.not_lt.2 h_)); (try have c18b2 : (9223372036854775807 < ((x3_9 ++ t286) ++ (⟨#[45]⟩ : ByteArray)).size + t287.size) = False := eq_false (Nat.not_lt.2 c18)); have H' := Aside0.mk H; clear H; (go_wp2_with (first | ((with_reducible refine gate_callee (f := 51) rfl ?_); refine goesL_ (some 33) rfl rfl Tryd.func51 (by kernel_rfl) rfl #[.int .i64 x4_1] rfl (by (try simp only [List.map_toArray, List.map_cons, List.map_nil]); first | done | rfl | (simp only [List.length_drop, List.length_take]; rfl)) ?_; (with_reducible refine (musterref10_digits.calls x4_1 t286 _ A13.out).mono ?_); rintro e w19 ⟨rfl, hb⟩; refine ⟨_, rfl, ?_⟩; have n0_ := Aside0.mk (below_step (by repeat (first | (with_reducible first | exact HB.out | apply below_alloc | apply pw_below_drewN | apply below_drew1) | exact HB.out)) hb); clear HB; have HB := n0_; clear n0_; (try clear hb); (try clear hb2); (try clear hk); (try clear hi)) | ((with_reducible refine gate_callee (f := 51) rfl ?_); refine goesL_ (some 41) rfl rfl Tryd.func51 (by kernel_rfl) rfl #[.int .i64 x5_3] rfl (by (try simp only [List.map_toArray, List.map_cons, List.map_nil]); first | done | rfl | (simp only [List.length_drop, List.length_take]; rfl)) ?_; (with_reducible refine (musterref10_digits.calls x5_3 t287 _ A17.out).mono ?_); rintro e w20 ⟨rfl, hb⟩; refine ⟨_, rfl, ?_⟩; have n0_ := Aside0.mk (below_step (by repeat (first | (with_reducible first | exact HB.out | apply below_alloc | apply pw_below_drewN | apply below_drew1) | exact HB.out)) hb); clear HB; have HB := n0_; clear n0_; (try clear hb); (try clear hb2); (try clear hk); (try clear hi)))); go_roundg kj9
                case measure => have := HK1.out; have := HJ2.out; have := HK3.out; have := HJ9.out; omega
                case rel => exact ⟨(((x3_9 ++ t286) ++ (⟨#[45]⟩ : ByteArray)) ++ t287), (wrap64 (x4_1 + 1)), (by first | rfl | (simp; done) | (simp [*]; done)), (by first | rfl | (simp; done) | (simp [*]; done)), H', ⟨by have := HK1.out; have := HJ2.out; have := HK3.out; have := HJ9.out; omega⟩, ⟨by repeat (first | (with_reducible first | exact HB.out | apply below_alloc | apply pw_below_drewN | apply below_drew1) | exact HB.out)⟩⟩
               ·rw [if_neg c18] at H; exact absurd H (by simp)
              ·rw [if_neg c16] at H; exact absurd H (by simp)
             ·rw [if_neg c15] at H; have c15b0 : decide (x4_1 < x5_3) = false := decide_eq_false c15; clear c15; have H' := Aside0.mk H; clear H; (go_wp2_with (first | ((with_reducible refine gate_callee (f := 51) rfl ?_); refine goesL_ (some 33) rfl rfl Tryd.func51 (by kernel_rfl) rfl #[.int .i64 x4_1] rfl (by (try simp only [List.map_toArray, List.map_cons, List.map_nil]); first | done | rfl | (simp only [List.length_drop, List.length_take]; rfl)) ?_; (with_reducible refine (musterref10_digits.calls x4_1 t286 _ A13.out).mono ?_); rintro e w21 ⟨rfl, hb⟩; refine ⟨_, rfl, ?_⟩; have n0_ := Aside0.mk (below_step (by repeat (first | (with_reducible first | exact HB.out | apply below_alloc | apply pw_below_drewN | apply below_drew1) | exact HB.out)) hb); clear HB; have HB := n0_; clear n0_; (try clear hb); (try clear hb2); (try clear hk); (try clear hi)))); go_roundg kj9
              case measure => have := HK1.out; have := HJ2.out; have := HK3.out; have := HJ9.out; omega
              case rel => exact ⟨(x3_9 ++ t286), (wrap64 (x4_1 + 1)), (by first | rfl | (simp; done) | (simp [*]; done)), (by first | rfl | (simp; done) | (simp [*]; done)), H', ⟨by have := HK1.out; have := HJ2.out; have := HK3.out; have := HJ9.out; omega⟩, ⟨by repeat (first | (with_reducible first | exact HB.out | apply below_alloc | apply pw_below_drewN | apply below_drew1) | exact HB.out)⟩⟩
            ·rw [if_neg c14] at H; exact absurd H (by simp)
   ·rw [if_neg c2] at H; have c2b0 : decide (x4_1 < 32) = false := decide_eq_false c2; clear c2; by_cases c22 : x3_1.toList = ([] : List UInt8)
    ·rw [if_pos c22] at H; have c22b0 : (x3_1.toList == ([] : List UInt8)) = true := beq_iff_eq.mpr c22; have c22e : x3_1.toList.isEmpty = true := List.isEmpty_iff.mpr c22; have c22b1 : (x3_1.toList != ([] : List UInt8)) = false := bne_eq_false_iff_eq.mpr c22; clear c22; obtain rfl := Option.some.inj H; go_wp2; go_ret; exact ⟨by first | rfl | (simp [errW_none, errW_some] <;> rfl) | (simp [*, errW_none, errW_some] <;> rfl), by repeat (first | (with_reducible first | exact HB.out | apply below_alloc | apply pw_below_drewN | apply below_drew1) | exact HB.out)⟩
    ·rw [if_neg c22] at H; have c22b0 : (x3_1.toList == ([] : List UInt8)) = false := beq_eq_false_iff_ne.mpr c22; have c22e : x3_1.toList.isEmpty = false := List.isEmpty_eq_false_iff.mpr c22; have c22b1 : (x3_1.toList != ([] : List UInt8)) = true := bne_iff_ne.mpr c22; obtain rfl := Option.some.inj H; go_wp2; go_ret; exact ⟨by first | rfl | (simp [errW_none, errW_some] <;> rfl) | (simp [*, errW_none, errW_some] <;> rfl), by repeat (first | (with_reducible first | exact HB.out | apply below_alloc | apply pw_below_drewN | apply below_drew1) | exact HB.out)⟩

end Go.Proofs.YthlbdbaanlehhaaDoor.Pr

-- MENDED
-- EMPTY
