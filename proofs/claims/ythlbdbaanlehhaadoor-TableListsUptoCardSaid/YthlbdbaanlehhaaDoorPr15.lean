-- MINIFIED by wip/tools/minify.py
-- Written by this session's program wip/tools/pr.py out of the translation (with the kit's print.py). Not trusted: Lean checks it.
import Derived.Test.YthlbdbaanlehhaaDoorPr0
import Derived.Test.YthlbdbaanlehhaaDoorPr14
namespace Go.Proofs.YthlbdbaanlehhaaDoor.Pr
open Go.RowKit Go.Proofs.YthlbdbaanlehhaaDoorW.PrintWords Go.Proofs.YthlbdbaanlehhaaDoorW.PrintLast Go.Proofs.YthlbdbaanlehhaaDoorW.PrintMore
attribute [local go_sem] max2_int min2_int max_two min_two max_three min_three max_four min_four   -- for this text's walks alone
set_option linter.unusedVariables false
set_option linter.unusedSimpArgs false

abbrev kPr150 : Array Bool := #[true, true, true, true, true, true, true, true, true, true, true, true, true, true, true]
abbrev kPr151 : Array Bool := #[true, true, true, true, true, true, true, true, true, true, true, true, true, true, false]
abbrev kPr152 : Array Bool := #[true, true, true, true, true, true, true, true, true, true, true, true, true, false, false]
abbrev kPr153 : Array Bool := #[true, true, true, true, true, true, true, true, true, true, true, true, false, false, false]
abbrev kPr154 : Array Bool := #[true, true, true, true, true, true, true, true, true, true, true, false, false, false, false]
abbrev kPr155 : Array Bool := #[true, true, true, true, true, true, false, true, true, true, true, false, false, false, false]
abbrev kPr156 : Array Bool := #[true, true, true, true, true, true, false, true, true, true, false, false, false, false, false]
abbrev kPr157 : Array Bool := #[true, true, true, true, true, true, false, true, true, false, false, false, false, false, false]
abbrev kPr158 : Array Bool := #[true, true, true, true, true, true, false, true, false, false, false, false, false, false, false]
abbrev kPr159 : Array Bool := #[true, true, true, true, true, true, false, false, false, false, false, false, false, false, false]
abbrev kPr1510 : Array Bool := #[true, true, true, true, true, false, false, false, false, false, false, false, false, false, false]
abbrev kPr1511 : Array Bool := #[true, true, true, true, false, false, false, false, false, false, false, false, false, false, false]
abbrev kPr1512 : Array Bool := #[true, true, true, false, false, false, false, false, false, false, false, false, false, false, false]
abbrev kPr1513 : Array Bool := #[true, true, false, false, false, false, false, false, false, false, false, false, false, false, false]
abbrev kPr1514 : Array Bool := #[true, false, false, false, false, false, false, false, false, false, false, false, false, false, false]
abbrev kPr1515 : Array Bool := #[false, false, false, false, false, false, false, false, false, false, false, false, false, false, false]
/-! ### musterref31_Row: function 19 -/
def musterref31_Row.l0 : Nat → List (S49) → List ByteArray → ByteArray → Int → Option (ByteArray)
 | 0, _, _, _, _ => none
 | k + 1, x0, x1, x5, x6 => if x6 < (x0.length : Int) then (if x6 < (x1.length : Int) then (if 0 ≤ x6 then (if x6 > 0 then (if x5.size + 1 ≤ 9223372036854775807 then ((musterref31_Fit.f k (rdOf ByteArray.empty x1 x6) ((rd_T49 x0 x6).f1) ((rd_T49 x0 x6).f2)).bind fun t168 => (if (x5 ++ (⟨#[32]⟩ : ByteArray)).size + t168.size ≤ 9223372036854775807 then (musterref31_Row.l0 k x0 x1 ((x5 ++ (⟨#[32]⟩ : ByteArray)) ++ t168) (wrap64 (x6 + 1))) else (none))) else (none)) else ((musterref31_Fit.f k (rdOf ByteArray.empty x1 x6) ((rd_T49 x0 x6).f1) ((rd_T49 x0 x6).f2)).bind fun t171 => (if x5.size + t171.size ≤ 9223372036854775807 then (musterref31_Row.l0 k x0 x1 (x5 ++ t171) (wrap64 (x6 + 1))) else (none)))) else (none)) else (if x6 > 0 then (if x5.size + 1 ≤ 9223372036854775807 then (if 0 ≤ x6 then ((musterref31_Fit.f k (⟨#[]⟩ : ByteArray) ((rd_T49 x0 x6).f1) ((rd_T49 x0 x6).f2)).bind fun t174 => (if (x5 ++ (⟨#[32]⟩ : ByteArray)).size + t174.size ≤ 9223372036854775807 then (musterref31_Row.l0 k x0 x1 ((x5 ++ (⟨#[32]⟩ : ByteArray)) ++ t174) (wrap64 (x6 + 1))) else (none))) else (none)) else (none)) else (if 0 ≤ x6 then ((musterref31_Fit.f k (⟨#[]⟩ : ByteArray) ((rd_T49 x0 x6).f1) ((rd_T49 x0 x6).f2)).bind fun t177 => (if x5.size + t177.size ≤ 9223372036854775807 then (musterref31_Row.l0 k x0 x1 (x5 ++ t177) (wrap64 (x6 + 1))) else (none))) else (none)))) else (some x5)
def musterref31_Row.f (k : Nat) (l0 : List (S49)) (l1 : List ByteArray) : Option (ByteArray) := musterref31_Row.l0 k l0 l1 (⟨#[]⟩ : ByteArray) 0
theorem musterref31_Row.mono_l : ∀ k, (∀ y0 y1 y2 y3, LeO (musterref31_Row.l0 k y0 y1 y2 y3) (musterref31_Row.l0 (k + 1) y0 y1 y2 y3))
 | 0 => fun _ _ _ _ r h => by simp [musterref31_Row.l0] at h
 | k + 1 => by
  have ih0 := musterref31_Row.mono_l k
  ·intro y0 y1 y2 y3; unfold musterref31_Row.l0; repeat' first
   | (with_reducible exact ih0 _ _ _ _)
   | (with_reducible exact musterref31_Fit.mono _ _ _ _)
   | (with_reducible exact LeO.refl _)
   | (with_reducible exact LeO.none _)
   | (with_reducible refine LeO.ite ?_ ?_)
   | (with_reducible refine LeO.bind ?_ (fun _ => ?_))
   | exact ih0 _ _ _ _
   | exact musterref31_Fit.mono _ _ _ _
   | exact LeO.none _
   | refine LeO.ite ?_ ?_
   | refine LeO.bind ?_ (fun _ => ?_)
theorem musterref31_Row.mono : ∀ a0 a1 k, LeO (musterref31_Row.f k a0 a1) (musterref31_Row.f (k + 1) a0 a1) := by
 intro a0 a1 k; have ih0 := musterref31_Row.mono_l k; unfold musterref31_Row.f
 repeat' first
   | (with_reducible exact ih0 _ _ _ _)
   | (with_reducible exact musterref31_Fit.mono _ _ _ _)
   | (with_reducible exact LeO.refl _)
   | (with_reducible exact LeO.none _)
   | (with_reducible refine LeO.ite ?_ ?_)
   | (with_reducible refine LeO.bind ?_ (fun _ => ?_))
   | exact ih0 _ _ _ _
   | exact musterref31_Fit.mono _ _ _ _
   | exact LeO.none _
   | refine LeO.ite ?_ ?_
   | refine LeO.bind ?_ (fun _ => ?_)
def musterref31_Row.T10 : Bool × List (List Nat × List Nat) := (true, [([], []), ([], []), ([], []), ([], []), ([2, 3], [2, 3]), ([4], [4]), ([5], [5]), ([], []), ([], []), ([7, 8], [7, 8]), ([9], [9]), ([10], [10]), ([1, 6, 11], [1, 6, 11]), ([0, 12], [0, 12]), ([13, 12, 0, 1, 2, 3, 4, 5, 6, 7, 8, 9, 10, 11, 12, 13], [0, 13])])
def musterref31_Row.B10 : List Nat := [0, 0, 0, 0, 12, 28, 60, 0, 0, 384, 896, 1920, 4094, 8191, 16383]
theorem musterref31_Row.tab10 : rtab .any (opsOf Tryd.f19 10) = musterref31_Row.T10 := by kernel_rfl
theorem musterref31_Row.bits10 : waitsOk musterref31_Row.T10.2 musterref31_Row.B10 = true := by kernel_rfl
set_option maxHeartbeats 8000000 in
set_option maxRecDepth 100000 in
theorem musterref31_Row.calls (k : Nat) (A0 : Option Addr) (c0 : Nat) (l0 : List (S49)) (A1 : Option Addr) (c1 : Nat) (l1 : List ByteArray) (r : ByteArray) (w : World) (hr0 : Kd.C k49 w A0 l0.length l0) (hc0 : l0.length ≤ c0) (hr1 : Kd.C Kd.string w A1 l1.length l1) (hc1 : l1.length ≤ c1) (h : musterref31_Row.f k l0 l1 = some r) :
  Calls Tryd.prog 19 #[.slice A0 l0.length c0, .slice A1 l1.length c1] w fun e w' => e = .returned (.string r) ∧ Below w.heap.size w w' := by
 have HR0 := Aside0.mk hr0; have HC0 := Aside0.mk hc0; clear hr0 hc0; have HR1 := Aside0.mk hr1; have HC1 := Aside0.mk hc1; clear hr1 hc1; have HB := Aside0.mk (Below.refl w.heap.size w); have H : (musterref31_Row.l0 k l0 l1 (⟨#[]⟩ : ByteArray) 0) = some r := h; clear h; have H' := Aside0.mk H; clear H; (go_enter Tryd.func19, Tryd.ntmps19); go_wp2; go_loopg [5, 6] k (fun kq v5 v6 w' => ∃ (x5_1 : ByteArray) (x6_1 : Int), v5 = .string x5_1 ∧ v6 = .int .i64 x6_1 ∧ Aside0 (musterref31_Row.l0 kq l0 l1 x5_1 x6_1 = some r) ∧ Aside0 (kq ≤ k) ∧ Aside0 (Below w.heap.size w w'))
 case atStart => exact ⟨((⟨#[]⟩ : ByteArray)), (0), (by first | rfl | (simp; done) | (simp [*]; done)), (by first | rfl | (simp; done) | (simp [*]; done)), H', ⟨Nat.le_refl _⟩, ⟨by repeat (first | (with_reducible first | exact HB.out | apply below_alloc | apply pw_below_drewN | apply below_drew1) | exact HB.out)⟩⟩
 case round =>
  clear H'; (try clear c1); (try clear p2); obtain ⟨x5_1, x6_1, rfl, rfl, HA, HK1, HB⟩ := hrel
  cases gk with
  | zero => exact absurd HA.out (by simp [musterref31_Row.l0])
  | succ k1 =>
   have H := HA.out; clear HA; simp only [musterref31_Row.l0] at H; by_cases c3 : x6_1 < (l0.length : Int)
   ·rw [if_pos c3] at H; have c3b0 : decide (x6_1 < (l0.length : Int)) = true := decide_eq_true c3; clear c3; by_cases c4 : x6_1 < (l1.length : Int)
    ·rw [if_pos c4] at H; have c4b0 : decide (x6_1 < (l1.length : Int)) = true := decide_eq_true c4; clear c4; by_cases c5 : 0 ≤ x6_1
     ·rw [if_pos c5] at H; have c5b0 : decide (0 ≤ x6_1) = true := decide_eq_true c5; clear c5; by_cases c6 : x6_1 > 0
      ·rw [if_pos c6] at H; have c6b0 : decide (0 < x6_1) = true := decide_eq_true c6; clear c6; by_cases c7 : x5_1.size + 1 ≤ 9223372036854775807
       ·rw [if_pos c7] at H; have c7b0 := eq_true c7; have c7b1 : decide (x5_1.size + 1 ≤ 9223372036854775807) = true := decide_eq_true c7; (try have c7b2 : (9223372036854775807 < x5_1.size + 1) = False := eq_false (Nat.not_lt.2 c7)); replace H := Option.bind_eq_some_iff.mp H; obtain ⟨t168, A80, H⟩ := H; replace H : (if (x5_1 ++ (⟨#[32]⟩ : ByteArray)).size + t168.size ≤ 9223372036854775807 then (musterref31_Row.l0 k1 l0 l1 ((x5_1 ++ (⟨#[32]⟩ : ByteArray)) ++ t168) (wrap64 (x6_1 + 1))) else (none)) = some r := H; have A8 := Aside0.mk A80; clear A80; by_cases c9 : (x5_1 ++ (⟨#[32]⟩ : ByteArray)).size + t168.size ≤ 9223372036854775807
        ·rw [if_pos c9] at H; have c9b0 := eq_true c9; have c9b1 : decide ((x5_1 ++ (⟨#[32]⟩ : ByteArray)).size + t168.size ≤ 9223372036854775807) = true := decide_eq_true c9; (have c9m0 : (x5_1.size + 1 + t168.size ≤ 9223372036854775807) = True := by have h_ := c9; simp only [ByteArray.size_append] at h_; exact eq_true h_); (have c9m1 : (9223372036854775807 < x5_1.size + 1 + t168.size) = False := by have h_ := c9; simp only [ByteArray.size_append] at h_; exact eq_false (Nat.not_lt.2 h_)); (try have c9b2 : (9223372036854775807 < (x5_1 ++ (⟨#[32]⟩ : ByteArray)).size + t168.size) = False := eq_false (Nat.not_lt.2 c9)); have H' := Aside0.mk H; clear H; have p165 : 0 ≤ (x6_1 : Int) := of_decide_eq_true (by first | (with_reducible assumption) | assumption); have q165 : x6_1 < (l1.length : Int) := of_decide_eq_true (by first | (with_reducible assumption) | assumption); obtain ⟨ad165, e165, hx165_0⟩ := Kd.at_string HR1.out x6_1 p165 q165
         cases e165; replace hx165_0 := (HB.out.cell (World.block_lt_of_cell? w _ hx165_0)).trans hx165_0; replace p165 := eq_true p165; replace q165 := eq_true q165; (try go_wp2); have n0_ := Aside0.mk (below_drew1 HB.out); clear HB; have HB := n0_; clear n0_; have p166 : 0 ≤ (x6_1 : Int) := of_decide_eq_true (by first | (with_reducible assumption) | assumption); have q166 : x6_1 < (l0.length : Int) := of_decide_eq_true (by first | (with_reducible assumption) | assumption); obtain ⟨ad166, e166, hx166_0, hx166_1, hx166_2⟩ := at_T49 HR0.out x6_1 p166 q166; have hw166_2 := hx166_2; have hw166_1 := hx166_1; have hw166_0 := hx166_0
         cases e166; replace hx166_0 := (HB.out.cell (World.block_lt_of_cell? w _ hx166_0)).trans hx166_0; replace hx166_1 := (HB.out.cell (World.block_lt_of_cell? w _ hx166_1)).trans hx166_1; replace hx166_2 := (HB.out.cell (World.block_lt_of_cell? w _ hx166_2)).trans hx166_2; replace p166 := eq_true p166; replace q166 := eq_true q166; have p167 : 0 ≤ (x6_1 : Int) := of_decide_eq_true (by first | (with_reducible assumption) | assumption); have q167 : x6_1 < (l0.length : Int) := of_decide_eq_true (by first | (with_reducible assumption) | assumption); obtain ⟨ad167, e167, hx167_0, hx167_1, hx167_2⟩ := at_T49 HR0.out x6_1 p167 q167; have hw167_2 := hx167_2; have hw167_1 := hx167_1; have hw167_0 := hx167_0; (obtain rfl : ad166 = ad167 := (by injection e167)); replace hx167_0 := (HB.out.cell (World.block_lt_of_cell? w _ hx167_0)).trans hx167_0; replace hx167_1 := (HB.out.cell (World.block_lt_of_cell? w _ hx167_1)).trans hx167_1; replace hx167_2 := (HB.out.cell (World.block_lt_of_cell? w _ hx167_2)).trans hx167_2; replace p167 := eq_true p167; replace q167 := eq_true q167; refine start_ (n := 15) (S := fun w' => w'.cell? (ad166.add ((x6_1).toNat * 3)) = some (.string ((rd_T49 l0 x6_1).f0)) ∧ w'.cell? ⟨(ad166.add ((x6_1).toNat * 3)).block, (ad166.add ((x6_1).toNat * 3)).off + 1, none⟩ = some (.int .i64 ((rd_T49 l0 x6_1).f1)) ∧ w'.cell? ⟨(ad166.add ((x6_1).toNat * 3)).block, (ad166.add ((x6_1).toNat * 3)).off + 2, none⟩ = some (.bool ((rd_T49 l0 x6_1).f2)) ∧ w'.cell? (ad166.add ((x6_1).toNat * 3)) = some (.string ((rd_T49 l0 x6_1).f0)) ∧ w'.cell? ⟨(ad166.add ((x6_1).toNat * 3)).block, (ad166.add ((x6_1).toNat * 3)).off + 1, none⟩ = some (.int .i64 ((rd_T49 l0 x6_1).f1)) ∧ w'.cell? ⟨(ad166.add ((x6_1).toNat * 3)).block, (ad166.add ((x6_1).toNat * 3)).off + 2, none⟩ = some (.bool ((rd_T49 l0 x6_1).f2))) (ds := []) kPr1515 (by kernel_rfl) rfl rfl ⟨((HB.out.cell (World.block_lt_of_cell? w _ hw166_0)).trans hw166_0), ((HB.out.cell (World.block_lt_of_cell? w _ hw166_1)).trans hw166_1), ((HB.out.cell (World.block_lt_of_cell? w _ hw166_2)).trans hw166_2), ((HB.out.cell (World.block_lt_of_cell? w _ hw167_0)).trans hw167_0), ((HB.out.cell (World.block_lt_of_cell? w _ hw167_1)).trans hw167_1), ((HB.out.cell (World.block_lt_of_cell? w _ hw167_2)).trans hw167_2)⟩ (fun hHeld => ?_); refine with_tabW musterref31_Row.tab10 musterref31_Row.bits10 (fun HT_ HW_ => ?_); generalize wr.drew = w10 at HB hx166_0 hx166_1 hx166_2 hx167_0 hx167_1 hx167_2 hHeld ⊢; refine pure_ (i := 0) (N := some 26) (v := ?_) (a' := ?_) kPr1514 rfl rfl (any_of HT_.out (by kernel_rfl)) (fun _ _ _ h => h) (Or.inl ⟨by rfl, ?_⟩) ?_ ?_; rotate_left
         ·intro w'; go_simp; with_reducible rfl
         rotate_left
         ·simp only [Act.put, sA, sB, sC, i64_w, i32_w]; rfl
         refine pure_ (i := 1) (N := some 27) (v := ?_) (a' := ?_) kPr1513 rfl rfl (any_of HT_.out (by kernel_rfl)) (fun _ _ _ h => h) (Or.inl ⟨by rfl, ?_⟩) ?_ ?_; rotate_left
         ·intro w'; go_simp; with_reducible rfl
         rotate_left
         ·simp only [Act.put, sA, sB, sC, i64_w, i32_w]; rfl
         refine pure_ (i := 2) (N := some 28) (v := ?_) (a' := ?_) kPr1512 rfl rfl (any_of HT_.out (by kernel_rfl)) (fun _ _ _ h => h) (Or.inl ⟨by rfl, ?_⟩) ?_ ?_; rotate_left
         ·intro w'; go_simp; with_reducible rfl
         rotate_left
         ·simp only [Act.put, sA, sB, sC, i64_w, i32_w]; rfl
         refine pure_ (i := 3) (N := some 29) (v := ?_) (a' := ?_) kPr1511 rfl rfl (any_of HT_.out (by kernel_rfl)) (fun _ _ _ h => h) (Or.inl ⟨by rfl, ?_⟩) ?_ ?_; rotate_left
         ·intro w'; go_simp; with_reducible rfl
         rotate_left
         ·simp only [Act.put, sA, sB, sC, i64_w, i32_w]; rfl
         refine pure_ (i := 4) (N := some 30) (v := ?_) (a' := ?_) kPr1510 rfl rfl (any_of HT_.out (by kernel_rfl)) (fun _ _ _ h => h) (Or.inl ⟨by rfl, ?_⟩) ?_ ?_; rotate_left
         ·intro w'; go_simp; with_reducible rfl
         rotate_left
         ·simp only [Act.put, sA, sB, sC, i64_w, i32_w]; rfl
         refine pure_ (i := 5) (N := some 31) (v := ?_) (a' := ?_) kPr159 rfl rfl (any_of HT_.out (by kernel_rfl)) (fun _ _ _ h => h) (Or.inl ⟨by rfl, ?_⟩) ?_ ?_; rotate_left
         ·intro w'; go_simp; with_reducible rfl
         rotate_left
         ·simp only [Act.put, sA, sB, sC, i64_w, i32_w]; rfl
         refine pure_ (i := 7) (N := some 33) (v := ?_) (a' := ?_) kPr158 rfl rfl (any_of HT_.out (by kernel_rfl)) (fun _ _ _ h => h) (Or.inl ⟨by rfl, ?_⟩) ?_ ?_; rotate_left
         ·intro w'; go_simp; with_reducible rfl
         rotate_left
         ·simp only [Act.put, sA, sB, sC, i64_w, i32_w]; rfl
         refine pure_ (i := 8) (N := some 34) (v := ?_) (a' := ?_) kPr157 rfl rfl (any_of HT_.out (by kernel_rfl)) (fun _ _ _ h => h) (Or.inl ⟨by rfl, ?_⟩) ?_ ?_; rotate_left
         ·intro w'; go_simp; with_reducible rfl
         rotate_left
         ·simp only [Act.put, sA, sB, sC, i64_w, i32_w]; rfl
         refine pure_ (i := 9) (N := some 35) (v := ?_) (a' := ?_) kPr156 rfl rfl (any_of HT_.out (by kernel_rfl)) (fun _ _ _ h => h) (Or.inl ⟨by rfl, ?_⟩) ?_ ?_; rotate_left
         ·intro w'; go_simp; with_reducible rfl
         rotate_left
         ·simp only [Act.put, sA, sB, sC, i64_w, i32_w]; rfl
         refine pure_ (i := 10) (N := some 36) (v := ?_) (a' := ?_) kPr155 rfl rfl (any_of HT_.out (by kernel_rfl)) (fun _ _ _ h => h) (Or.inl ⟨by rfl, ?_⟩) ?_ ?_; rotate_left
         ·intro w'; go_simp; with_reducible rfl
         rotate_left
         ·simp only [Act.put, sA, sB, sC, i64_w, i32_w]; rfl
         refine take_ (i := 6) (N := some 32) (v := ?_) (a' := ?_) kPr154 rfl rfl (take_ofW HT_.out HW_.out (by kernel_rfl)) (fun _ _ _ h => h) (Or.inl ⟨by rfl, ?_⟩) hHeld ?_ ?_; rotate_left
         ·rintro w' ⟨s0, s1, s2, s3, s4, s5⟩; go_simp; with_reducible rfl
         rotate_left
         ·simp only [Act.put, sA, sB, sC, i64_w, i32_w]; rfl
         refine take_ (i := 11) (N := some 37) (v := ?_) (a' := ?_) kPr153 rfl rfl (take_ofW HT_.out HW_.out (by kernel_rfl)) (fun _ _ _ h => h) (Or.inl ⟨by rfl, ?_⟩) hHeld ?_ ?_; rotate_left
         ·rintro w' ⟨s0, s1, s2, s3, s4, s5⟩; go_simp; with_reducible rfl
         rotate_left
         ·simp only [Act.put, sA, sB, sC, i64_w, i32_w]; rfl
         refine one_ (i := 12) (N := some 38) kPr152 rfl rfl (one_of HT_.out (by kernel_rfl)) (by decide) (fun K hK => ?_); refine goes_ Tryd.func15 (by kernel_rfl) rfl #[.string (rdOf ByteArray.empty l1 x6_1), .int .i64 ((rd_T49 l0 x6_1).f1), .bool ((rd_T49 l0 x6_1).f2)] (by rfl) rfl rfl (by (try simp only [List.map_toArray, List.map_cons, List.map_nil]); first | done | rfl | (simp only [List.length_drop, List.length_take]; rfl)) ?_; (with_reducible refine (musterref31_Fit.calls k1 (rdOf ByteArray.empty l1 x6_1) ((rd_T49 l0 x6_1).f1) ((rd_T49 l0 x6_1).f2) t168 _ A8.out).mono ?_); rintro e w11 ⟨rfl, hb⟩; refine ⟨_, rfl, ?_⟩; have n0_ := Aside0.mk (below_step (by repeat (first | (with_reducible first | exact HB.out | apply below_alloc | apply pw_below_drewN | apply below_drew1) | exact HB.out)) hb); clear HB; have HB := n0_; clear n0_; (try clear hb); (try clear hb2); (try clear hk); (try clear hi); refine hK.out _ _ ⟨((HB.out.cell (World.block_lt_of_cell? w _ hw166_0)).trans hw166_0), ((HB.out.cell (World.block_lt_of_cell? w _ hw166_1)).trans hw166_1), ((HB.out.cell (World.block_lt_of_cell? w _ hw166_2)).trans hw166_2), ((HB.out.cell (World.block_lt_of_cell? w _ hw167_0)).trans hw167_0), ((HB.out.cell (World.block_lt_of_cell? w _ hw167_1)).trans hw167_1), ((HB.out.cell (World.block_lt_of_cell? w _ hw167_2)).trans hw167_2)⟩ (fun hHeld => ?_); clear hK K; refine norm_ (a' := ?_) ?_ ?_; rotate_left
         ·show Act.put _ (some 38) _ = _; simp only [Act.put, sA, sB, sC, i64_w, i32_w]; rfl
         refine pure_ (i := 13) (N := some 39) (v := ?_) (a' := ?_) kPr151 rfl rfl (any_of HT_.out (by kernel_rfl)) (fun _ _ _ h => h) (Or.inl ⟨by rfl, ?_⟩) ?_ ?_; rotate_left
         ·intro w'; go_simp; with_reducible rfl
         rotate_left
         ·simp only [Act.put, sA, sB, sC, i64_w, i32_w]; rfl
         refine pure_ (i := 14) (N := some 5) (v := ?_) (a' := ?_) kPr150 rfl rfl (any_of HT_.out (by kernel_rfl)) (fun _ _ _ h => h) (Or.inl ⟨by rfl, ?_⟩) ?_ ?_; rotate_left
         ·intro w'; go_simp; with_reducible rfl
         rotate_left
         ·simp only [Act.put, sA, sB, sC, i64_w, i32_w]; rfl
         refine done_ (done_of HT_.out (by kernel_rfl)) ?_; (try go_wp2); go_roundg k1
         case measure => have := HK1.out; omega
         case rel => exact ⟨((x5_1 ++ (⟨#[32]⟩ : ByteArray)) ++ t168), (wrap64 (x6_1 + 1)), (by first | rfl | (simp; done) | (simp [*]; done)), (by first | rfl | (simp; done) | (simp [*]; done)), H', ⟨by have := HK1.out; omega⟩, ⟨by repeat (first | (with_reducible first | exact HB.out | apply below_alloc | apply pw_below_drewN | apply below_drew1) | exact HB.out)⟩⟩
        ·rw [if_neg c9] at H; exact absurd H (by simp)
       ·rw [if_neg c7] at H; exact absurd H (by simp)
      ·rw [if_neg c6] at H; have c6b0 : decide (0 < x6_1) = false := decide_eq_false c6; clear c6; replace H := Option.bind_eq_some_iff.mp H; obtain ⟨t171, A120, H⟩ := H; replace H : (if x5_1.size + t171.size ≤ 9223372036854775807 then (musterref31_Row.l0 k1 l0 l1 (x5_1 ++ t171) (wrap64 (x6_1 + 1))) else (none)) = some r := H; have A12 := Aside0.mk A120; clear A120; by_cases c13 : x5_1.size + t171.size ≤ 9223372036854775807
       ·rw [if_pos c13] at H; have c13b0 := eq_true c13; have c13b1 : decide (x5_1.size + t171.size ≤ 9223372036854775807) = true := decide_eq_true c13; (try have c13b2 : (9223372036854775807 < x5_1.size + t171.size) = False := eq_false (Nat.not_lt.2 c13)); have H' := Aside0.mk H; clear H; have p165 : 0 ≤ (x6_1 : Int) := of_decide_eq_true (by first | (with_reducible assumption) | assumption); have q165 : x6_1 < (l1.length : Int) := of_decide_eq_true (by first | (with_reducible assumption) | assumption); obtain ⟨ad165, e165, hx165_0⟩ := Kd.at_string HR1.out x6_1 p165 q165
        cases e165; replace hx165_0 := (HB.out.cell (World.block_lt_of_cell? w _ hx165_0)).trans hx165_0; replace p165 := eq_true p165; replace q165 := eq_true q165; (try go_wp2); have n0_ := Aside0.mk (below_drew1 HB.out); clear HB; have HB := n0_; clear n0_; have p169 : 0 ≤ (x6_1 : Int) := of_decide_eq_true (by first | (with_reducible assumption) | assumption); have q169 : x6_1 < (l0.length : Int) := of_decide_eq_true (by first | (with_reducible assumption) | assumption); obtain ⟨ad169, e169, hx169_0, hx169_1, hx169_2⟩ := at_T49 HR0.out x6_1 p169 q169; have hw169_2 := hx169_2; have hw169_1 := hx169_1; have hw169_0 := hx169_0
        cases e169; replace hx169_0 := (HB.out.cell (World.block_lt_of_cell? w _ hx169_0)).trans hx169_0; replace hx169_1 := (HB.out.cell (World.block_lt_of_cell? w _ hx169_1)).trans hx169_1; replace hx169_2 := (HB.out.cell (World.block_lt_of_cell? w _ hx169_2)).trans hx169_2; replace p169 := eq_true p169; replace q169 := eq_true q169; have p170 : 0 ≤ (x6_1 : Int) := of_decide_eq_true (by first | (with_reducible assumption) | assumption); have q170 : x6_1 < (l0.length : Int) := of_decide_eq_true (by first | (with_reducible assumption) | assumption); obtain ⟨ad170, e170, hx170_0, hx170_1, hx170_2⟩ := at_T49 HR0.out x6_1 p170 q170; have hw170_2 := hx170_2; have hw170_1 := hx170_1; have hw170_0 := hx170_0; (obtain rfl : ad169 = ad170 := (by injection e170)); replace hx170_0 := (HB.out.cell (World.block_lt_of_cell? w _ hx170_0)).trans hx170_0; replace hx170_1 := (HB.out.cell (World.block_lt_of_cell? w _ hx170_1)).trans hx170_1; replace hx170_2 := (HB.out.cell (World.block_lt_of_cell? w _ hx170_2)).trans hx170_2; replace p170 := eq_true p170; replace q170 := eq_true q170; refine start_ (n := 15) (S := fun w' => w'.cell? (ad169.add ((x6_1).toNat * 3)) = some (.string ((rd_T49 l0 x6_1).f0)) ∧ w'.cell? ⟨(ad169.add ((x6_1).toNat * 3)).block, (ad169.add ((x6_1).toNat * 3)).off + 1, none⟩ = some (.int .i64 ((rd_T49 l0 x6_1).f1)) ∧ w'.cell? ⟨(ad169.add ((x6_1).toNat * 3)).block, (ad169.add ((x6_1).toNat * 3)).off + 2, none⟩ = some (.bool ((rd_T49 l0 x6_1).f2)) ∧ w'.cell? (ad169.add ((x6_1).toNat * 3)) = some (.string ((rd_T49 l0 x6_1).f0)) ∧ w'.cell? ⟨(ad169.add ((x6_1).toNat * 3)).block, (ad169.add ((x6_1).toNat * 3)).off + 1, none⟩ = some (.int .i64 ((rd_T49 l0 x6_1).f1)) ∧ w'.cell? ⟨(ad169.add ((x6_1).toNat * 3)).block, (ad169.add ((x6_1).toNat * 3)).off + 2, none⟩ = some (.bool ((rd_T49 l0 x6_1).f2))) (ds := []) kPr1515 (by kernel_rfl) rfl rfl ⟨((HB.out.cell (World.block_lt_of_cell? w _ hw169_0)).trans hw169_0), ((HB.out.cell (World.block_lt_of_cell? w _ hw169_1)).trans hw169_1), ((HB.out.cell (World.block_lt_of_cell? w _ hw169_2)).trans hw169_2), ((HB.out.cell (World.block_lt_of_cell? w _ hw170_0)).trans hw170_0), ((HB.out.cell (World.block_lt_of_cell? w _ hw170_1)).trans hw170_1), ((HB.out.cell (World.block_lt_of_cell? w _ hw170_2)).trans hw170_2)⟩ (fun hHeld => ?_); refine with_tabW musterref31_Row.tab10 musterref31_Row.bits10 (fun HT_ HW_ => ?_); generalize wr.drew = w14 at HB hx169_0 hx169_1 hx169_2 hx170_0 hx170_1 hx170_2 hHeld ⊢; refine pure_ (i := 0) (N := some 26) (v := ?_) (a' := ?_) kPr1514 rfl rfl (any_of HT_.out (by kernel_rfl)) (fun _ _ _ h => h) (Or.inl ⟨by rfl, ?_⟩) ?_ ?_; rotate_left
        ·intro w'; go_simp; with_reducible rfl
        rotate_left
        ·simp only [Act.put, sA, sB, sC, i64_w, i32_w]; rfl
        refine pure_ (i := 1) (N := some 27) (v := ?_) (a' := ?_) kPr1513 rfl rfl (any_of HT_.out (by kernel_rfl)) (fun _ _ _ h => h) (Or.inl ⟨by rfl, ?_⟩) ?_ ?_; rotate_left
        ·intro w'; go_simp; with_reducible rfl
        rotate_left
        ·simp only [Act.put, sA, sB, sC, i64_w, i32_w]; rfl
        refine pure_ (i := 2) (N := some 28) (v := ?_) (a' := ?_) kPr1512 rfl rfl (any_of HT_.out (by kernel_rfl)) (fun _ _ _ h => h) (Or.inl ⟨by rfl, ?_⟩) ?_ ?_; rotate_left
        ·intro w'; go_simp; with_reducible rfl
        rotate_left
        ·simp only [Act.put, sA, sB, sC, i64_w, i32_w]; rfl
        refine pure_ (i := 3) (N := some 29) (v := ?_) (a' := ?_) kPr1511 rfl rfl (any_of HT_.out (by kernel_rfl)) (fun _ _ _ h => h) (Or.inl ⟨by rfl, ?_⟩) ?_ ?_; rotate_left
        ·intro w'; go_simp; with_reducible rfl
        rotate_left
        ·simp only [Act.put, sA, sB, sC, i64_w, i32_w]; rfl
        refine pure_ (i := 4) (N := some 30) (v := ?_) (a' := ?_) kPr1510 rfl rfl (any_of HT_.out (by kernel_rfl)) (fun _ _ _ h => h) (Or.inl ⟨by rfl, ?_⟩) ?_ ?_; rotate_left
        ·intro w'; go_simp; with_reducible rfl
        rotate_left
        ·simp only [Act.put, sA, sB, sC, i64_w, i32_w]; rfl
        refine pure_ (i := 5) (N := some 31) (v := ?_) (a' := ?_) kPr159 rfl rfl (any_of HT_.out (by kernel_rfl)) (fun _ _ _ h => h) (Or.inl ⟨by rfl, ?_⟩) ?_ ?_; rotate_left
        ·intro w'; go_simp; with_reducible rfl
        rotate_left
        ·simp only [Act.put, sA, sB, sC, i64_w, i32_w]; rfl
        refine pure_ (i := 7) (N := some 33) (v := ?_) (a' := ?_) kPr158 rfl rfl (any_of HT_.out (by kernel_rfl)) (fun _ _ _ h => h) (Or.inl ⟨by rfl, ?_⟩) ?_ ?_; rotate_left
        ·intro w'; go_simp; with_reducible rfl
        rotate_left
        ·simp only [Act.put, sA, sB, sC, i64_w, i32_w]; rfl
        refine pure_ (i := 8) (N := some 34) (v := ?_) (a' := ?_) kPr157 rfl rfl (any_of HT_.out (by kernel_rfl)) (fun _ _ _ h => h) (Or.inl ⟨by rfl, ?_⟩) ?_ ?_; rotate_left
        ·intro w'; go_simp; with_reducible rfl
        rotate_left
        ·simp only [Act.put, sA, sB, sC, i64_w, i32_w]; rfl
        refine pure_ (i := 9) (N := some 35) (v := ?_) (a' := ?_) kPr156 rfl rfl (any_of HT_.out (by kernel_rfl)) (fun _ _ _ h => h) (Or.inl ⟨by rfl, ?_⟩) ?_ ?_; rotate_left
        ·intro w'; go_simp; with_reducible rfl
        rotate_left
        ·simp only [Act.put, sA, sB, sC, i64_w, i32_w]; rfl
        refine pure_ (i := 10) (N := some 36) (v := ?_) (a' := ?_) kPr155 rfl rfl (any_of HT_.out (by kernel_rfl)) (fun _ _ _ h => h) (Or.inl ⟨by rfl, ?_⟩) ?_ ?_; rotate_left
        ·intro w'; go_simp; with_reducible rfl
        rotate_left
        ·simp only [Act.put, sA, sB, sC, i64_w, i32_w]; rfl
        refine take_ (i := 6) (N := some 32) (v := ?_) (a' := ?_) kPr154 rfl rfl (take_ofW HT_.out HW_.out (by kernel_rfl)) (fun _ _ _ h => h) (Or.inl ⟨by rfl, ?_⟩) hHeld ?_ ?_; rotate_left
        ·rintro w' ⟨s0, s1, s2, s3, s4, s5⟩; go_simp; with_reducible rfl
        rotate_left
        ·simp only [Act.put, sA, sB, sC, i64_w, i32_w]; rfl
        refine take_ (i := 11) (N := some 37) (v := ?_) (a' := ?_) kPr153 rfl rfl (take_ofW HT_.out HW_.out (by kernel_rfl)) (fun _ _ _ h => h) (Or.inl ⟨by rfl, ?_⟩) hHeld ?_ ?_; rotate_left
        ·rintro w' ⟨s0, s1, s2, s3, s4, s5⟩; go_simp; with_reducible rfl
        rotate_left
        ·simp only [Act.put, sA, sB, sC, i64_w, i32_w]; rfl
        refine one_ (i := 12) (N := some 38) kPr152 rfl rfl (one_of HT_.out (by kernel_rfl)) (by decide) (fun K hK => ?_); refine goes_ Tryd.func15 (by kernel_rfl) rfl #[.string (rdOf ByteArray.empty l1 x6_1), .int .i64 ((rd_T49 l0 x6_1).f1), .bool ((rd_T49 l0 x6_1).f2)] (by rfl) rfl rfl (by (try simp only [List.map_toArray, List.map_cons, List.map_nil]); first | done | rfl | (simp only [List.length_drop, List.length_take]; rfl)) ?_; (with_reducible refine (musterref31_Fit.calls k1 (rdOf ByteArray.empty l1 x6_1) ((rd_T49 l0 x6_1).f1) ((rd_T49 l0 x6_1).f2) t171 _ A12.out).mono ?_); rintro e w15 ⟨rfl, hb⟩; refine ⟨_, rfl, ?_⟩; have n0_ := Aside0.mk (below_step (by repeat (first | (with_reducible first | exact HB.out | apply below_alloc | apply pw_below_drewN | apply below_drew1) | exact HB.out)) hb); clear HB; have HB := n0_; clear n0_; (try clear hb); (try clear hb2); (try clear hk); (try clear hi); refine hK.out _ _ ⟨((HB.out.cell (World.block_lt_of_cell? w _ hw169_0)).trans hw169_0), ((HB.out.cell (World.block_lt_of_cell? w _ hw169_1)).trans hw169_1), ((HB.out.cell (World.block_lt_of_cell? w _ hw169_2)).trans hw169_2), ((HB.out.cell (World.block_lt_of_cell? w _ hw170_0)).trans hw170_0), ((HB.out.cell (World.block_lt_of_cell? w _ hw170_1)).trans hw170_1), ((HB.out.cell (World.block_lt_of_cell? w _ hw170_2)).trans hw170_2)⟩ (fun hHeld => ?_); clear hK K; refine norm_ (a' := ?_) ?_ ?_; rotate_left
        ·show Act.put _ (some 38) _ = _; simp only [Act.put, sA, sB, sC, i64_w, i32_w]; rfl
        refine pure_ (i := 13) (N := some 39) (v := ?_) (a' := ?_) kPr151 rfl rfl (any_of HT_.out (by kernel_rfl)) (fun _ _ _ h => h) (Or.inl ⟨by rfl, ?_⟩) ?_ ?_; rotate_left
        ·intro w'; go_simp; with_reducible rfl
        rotate_left
        ·simp only [Act.put, sA, sB, sC, i64_w, i32_w]; rfl
        refine pure_ (i := 14) (N := some 5) (v := ?_) (a' := ?_) kPr150 rfl rfl (any_of HT_.out (by kernel_rfl)) (fun _ _ _ h => h) (Or.inl ⟨by rfl, ?_⟩) ?_ ?_; rotate_left
        ·intro w'; go_simp; with_reducible rfl
        rotate_left
        ·simp only [Act.put, sA, sB, sC, i64_w, i32_w]; rfl
        refine done_ (done_of HT_.out (by kernel_rfl)) ?_; (try go_wp2); go_roundg k1
        case measure => have := HK1.out; omega
        case rel => exact ⟨(x5_1 ++ t171), (wrap64 (x6_1 + 1)), (by first | rfl | (simp; done) | (simp [*]; done)), (by first | rfl | (simp; done) | (simp [*]; done)), H', ⟨by have := HK1.out; omega⟩, ⟨by repeat (first | (with_reducible first | exact HB.out | apply below_alloc | apply pw_below_drewN | apply below_drew1) | exact HB.out)⟩⟩
       ·rw [if_neg c13] at H; exact absurd H (by simp)
     ·rw [if_neg c5] at H; exact absurd H (by simp)
    ·rw [if_neg c4] at H; have c4b0 : decide (x6_1 < (l1.length : Int)) = false := decide_eq_false c4; clear c4; by_cases c16 : x6_1 > 0
     ·rw [if_pos c16] at H; have c16b0 : decide (0 < x6_1) = true := decide_eq_true c16; clear c16; by_cases c17 : x5_1.size + 1 ≤ 9223372036854775807
      ·rw [if_pos c17] at H; have c17b0 := eq_true c17; have c17b1 : decide (x5_1.size + 1 ≤ 9223372036854775807) = true := decide_eq_true c17; (try have c17b2 : (9223372036854775807 < x5_1.size + 1) = False := eq_false (Nat.not_lt.2 c17)); by_cases c18 : 0 ≤ x6_1
       ·rw [if_pos c18] at H; have c18b0 : decide (0 ≤ x6_1) = true := decide_eq_true c18; clear c18; replace H := Option.bind_eq_some_iff.mp H; obtain ⟨t174, A190, H⟩ := H; replace H : (if (x5_1 ++ (⟨#[32]⟩ : ByteArray)).size + t174.size ≤ 9223372036854775807 then (musterref31_Row.l0 k1 l0 l1 ((x5_1 ++ (⟨#[32]⟩ : ByteArray)) ++ t174) (wrap64 (x6_1 + 1))) else (none)) = some r := H; have A19 := Aside0.mk A190; clear A190; by_cases c20 : (x5_1 ++ (⟨#[32]⟩ : ByteArray)).size + t174.size ≤ 9223372036854775807
        ·rw [if_pos c20] at H; have c20b0 := eq_true c20; have c20b1 : decide ((x5_1 ++ (⟨#[32]⟩ : ByteArray)).size + t174.size ≤ 9223372036854775807) = true := decide_eq_true c20; (have c20m0 : (x5_1.size + 1 + t174.size ≤ 9223372036854775807) = True := by have h_ := c20; simp only [ByteArray.size_append] at h_; exact eq_true h_); (have c20m1 : (9223372036854775807 < x5_1.size + 1 + t174.size) = False := by have h_ := c20; simp only [ByteArray.size_append] at h_; exact eq_false (Nat.not_lt.2 h_)); (try have c20b2 : (9223372036854775807 < (x5_1 ++ (⟨#[32]⟩ : ByteArray)).size + t174.size) = False := eq_false (Nat.not_lt.2 c20)); have H' := Aside0.mk H; clear H; (try go_wp2); have n0_ := Aside0.mk (below_drew1 HB.out); clear HB; have HB := n0_; clear n0_; have p172 : 0 ≤ (x6_1 : Int) := of_decide_eq_true (by first | (with_reducible assumption) | assumption); have q172 : x6_1 < (l0.length : Int) := of_decide_eq_true (by first | (with_reducible assumption) | assumption); obtain ⟨ad172, e172, hx172_0, hx172_1, hx172_2⟩ := at_T49 HR0.out x6_1 p172 q172; have hw172_2 := hx172_2; have hw172_1 := hx172_1; have hw172_0 := hx172_0
         cases e172; replace hx172_0 := (HB.out.cell (World.block_lt_of_cell? w _ hx172_0)).trans hx172_0; replace hx172_1 := (HB.out.cell (World.block_lt_of_cell? w _ hx172_1)).trans hx172_1; replace hx172_2 := (HB.out.cell (World.block_lt_of_cell? w _ hx172_2)).trans hx172_2; replace p172 := eq_true p172; replace q172 := eq_true q172; have p173 : 0 ≤ (x6_1 : Int) := of_decide_eq_true (by first | (with_reducible assumption) | assumption); have q173 : x6_1 < (l0.length : Int) := of_decide_eq_true (by first | (with_reducible assumption) | assumption); obtain ⟨ad173, e173, hx173_0, hx173_1, hx173_2⟩ := at_T49 HR0.out x6_1 p173 q173; have hw173_2 := hx173_2; have hw173_1 := hx173_1; have hw173_0 := hx173_0; (obtain rfl : ad172 = ad173 := (by injection e173)); replace hx173_0 := (HB.out.cell (World.block_lt_of_cell? w _ hx173_0)).trans hx173_0; replace hx173_1 := (HB.out.cell (World.block_lt_of_cell? w _ hx173_1)).trans hx173_1; replace hx173_2 := (HB.out.cell (World.block_lt_of_cell? w _ hx173_2)).trans hx173_2; replace p173 := eq_true p173; replace q173 := eq_true q173; refine start_ (n := 15) (S := fun w' => w'.cell? (ad172.add ((x6_1).toNat * 3)) = some (.string ((rd_T49 l0 x6_1).f0)) ∧ w'.cell? ⟨(ad172.add ((x6_1).toNat * 3)).block, (ad172.add ((x6_1).toNat * 3)).off + 1, none⟩ = some (.int .i64 ((rd_T49 l0 x6_1).f1)) ∧ w'.cell? ⟨(ad172.add ((x6_1).toNat * 3)).block, (ad172.add ((x6_1).toNat * 3)).off + 2, none⟩ = some (.bool ((rd_T49 l0 x6_1).f2)) ∧ w'.cell? (ad172.add ((x6_1).toNat * 3)) = some (.string ((rd_T49 l0 x6_1).f0)) ∧ w'.cell? ⟨(ad172.add ((x6_1).toNat * 3)).block, (ad172.add ((x6_1).toNat * 3)).off + 1, none⟩ = some (.int .i64 ((rd_T49 l0 x6_1).f1)) ∧ w'.cell? ⟨(ad172.add ((x6_1).toNat * 3)).block, (ad172.add ((x6_1).toNat * 3)).off + 2, none⟩ = some (.bool ((rd_T49 l0 x6_1).f2))) (ds := []) kPr1515 (by kernel_rfl) rfl rfl ⟨((HB.out.cell (World.block_lt_of_cell? w _ hw172_0)).trans hw172_0), ((HB.out.cell (World.block_lt_of_cell? w _ hw172_1)).trans hw172_1), ((HB.out.cell (World.block_lt_of_cell? w _ hw172_2)).trans hw172_2), ((HB.out.cell (World.block_lt_of_cell? w _ hw173_0)).trans hw173_0), ((HB.out.cell (World.block_lt_of_cell? w _ hw173_1)).trans hw173_1), ((HB.out.cell (World.block_lt_of_cell? w _ hw173_2)).trans hw173_2)⟩ (fun hHeld => ?_); refine with_tabW musterref31_Row.tab10 musterref31_Row.bits10 (fun HT_ HW_ => ?_); generalize wr.drew = w21 at HB hx172_0 hx172_1 hx172_2 hx173_0 hx173_1 hx173_2 hHeld ⊢; refine pure_ (i := 0) (N := some 26) (v := ?_) (a' := ?_) kPr1514 rfl rfl (any_of HT_.out (by kernel_rfl)) (fun _ _ _ h => h) (Or.inl ⟨by rfl, ?_⟩) ?_ ?_; rotate_left
         ·intro w'; go_simp; with_reducible rfl
         rotate_left
         ·simp only [Act.put, sA, sB, sC, i64_w, i32_w]; rfl
         refine pure_ (i := 1) (N := some 27) (v := ?_) (a' := ?_) kPr1513 rfl rfl (any_of HT_.out (by kernel_rfl)) (fun _ _ _ h => h) (Or.inl ⟨by rfl, ?_⟩) ?_ ?_; rotate_left
         ·intro w'; go_simp; with_reducible rfl
         rotate_left
         ·simp only [Act.put, sA, sB, sC, i64_w, i32_w]; rfl
         refine pure_ (i := 2) (N := some 28) (v := ?_) (a' := ?_) kPr1512 rfl rfl (any_of HT_.out (by kernel_rfl)) (fun _ _ _ h => h) (Or.inl ⟨by rfl, ?_⟩) ?_ ?_; rotate_left
         ·intro w'; go_simp; with_reducible rfl
         rotate_left
         ·simp only [Act.put, sA, sB, sC, i64_w, i32_w]; rfl
         refine pure_ (i := 3) (N := some 29) (v := ?_) (a' := ?_) kPr1511 rfl rfl (any_of HT_.out (by kernel_rfl)) (fun _ _ _ h => h) (Or.inl ⟨by rfl, ?_⟩) ?_ ?_; rotate_left
         ·intro w'; go_simp; with_reducible rfl
         rotate_left
         ·simp only [Act.put, sA, sB, sC, i64_w, i32_w]; rfl
         refine pure_ (i := 4) (N := some 30) (v := ?_) (a' := ?_) kPr1510 rfl rfl (any_of HT_.out (by kernel_rfl)) (fun _ _ _ h => h) (Or.inl ⟨by rfl, ?_⟩) ?_ ?_; rotate_left
         ·intro w'; go_simp; with_reducible rfl
         rotate_left
         ·simp only [Act.put, sA, sB, sC, i64_w, i32_w]; rfl
         refine pure_ (i := 5) (N := some 31) (v := ?_) (a' := ?_) kPr159 rfl rfl (any_of HT_.out (by kernel_rfl)) (fun _ _ _ h => h) (Or.inl ⟨by rfl, ?_⟩) ?_ ?_; rotate_left
         ·intro w'; go_simp; with_reducible rfl
         rotate_left
         ·simp only [Act.put, sA, sB, sC, i64_w, i32_w]; rfl
         refine pure_ (i := 7) (N := some 33) (v := ?_) (a' := ?_) kPr158 rfl rfl (any_of HT_.out (by kernel_rfl)) (fun _ _ _ h => h) (Or.inl ⟨by rfl, ?_⟩) ?_ ?_; rotate_left
         ·intro w'; go_simp; with_reducible rfl
         rotate_left
         ·simp only [Act.put, sA, sB, sC, i64_w, i32_w]; rfl
         refine pure_ (i := 8) (N := some 34) (v := ?_) (a' := ?_) kPr157 rfl rfl (any_of HT_.out (by kernel_rfl)) (fun _ _ _ h => h) (Or.inl ⟨by rfl, ?_⟩) ?_ ?_; rotate_left
         ·intro w'; go_simp; with_reducible rfl
         rotate_left
         ·simp only [Act.put, sA, sB, sC, i64_w, i32_w]; rfl
         refine pure_ (i := 9) (N := some 35) (v := ?_) (a' := ?_) kPr156 rfl rfl (any_of HT_.out (by kernel_rfl)) (fun _ _ _ h => h) (Or.inl ⟨by rfl, ?_⟩) ?_ ?_; rotate_left
         ·intro w'; go_simp; with_reducible rfl
         rotate_left
         ·simp only [Act.put, sA, sB, sC, i64_w, i32_w]; rfl
         refine pure_ (i := 10) (N := some 36) (v := ?_) (a' := ?_) kPr155 rfl rfl (any_of HT_.out (by kernel_rfl)) (fun _ _ _ h => h) (Or.inl ⟨by rfl, ?_⟩) ?_ ?_; rotate_left
         ·intro w'; go_simp; with_reducible rfl
         rotate_left
         ·simp only [Act.put, sA, sB, sC, i64_w, i32_w]; rfl
         refine take_ (i := 6) (N := some 32) (v := ?_) (a' := ?_) kPr154 rfl rfl (take_ofW HT_.out HW_.out (by kernel_rfl)) (fun _ _ _ h => h) (Or.inl ⟨by rfl, ?_⟩) hHeld ?_ ?_; rotate_left
         ·rintro w' ⟨s0, s1, s2, s3, s4, s5⟩; go_simp; with_reducible rfl
         rotate_left
         ·simp only [Act.put, sA, sB, sC, i64_w, i32_w]; rfl
         refine take_ (i := 11) (N := some 37) (v := ?_) (a' := ?_) kPr153 rfl rfl (take_ofW HT_.out HW_.out (by kernel_rfl)) (fun _ _ _ h => h) (Or.inl ⟨by rfl, ?_⟩) hHeld ?_ ?_; rotate_left
         ·rintro w' ⟨s0, s1, s2, s3, s4, s5⟩; go_simp; with_reducible rfl
         rotate_left
         ·simp only [Act.put, sA, sB, sC, i64_w, i32_w]; rfl
         refine one_ (i := 12) (N := some 38) kPr152 rfl rfl (one_of HT_.out (by kernel_rfl)) (by decide) (fun K hK => ?_); refine goes_ Tryd.func15 (by kernel_rfl) rfl #[.string (⟨#[]⟩ : ByteArray), .int .i64 ((rd_T49 l0 x6_1).f1), .bool ((rd_T49 l0 x6_1).f2)] (by rfl) rfl rfl (by (try simp only [List.map_toArray, List.map_cons, List.map_nil]); first | done | rfl | (simp only [List.length_drop, List.length_take]; rfl)) ?_; (with_reducible refine (musterref31_Fit.calls k1 (⟨#[]⟩ : ByteArray) ((rd_T49 l0 x6_1).f1) ((rd_T49 l0 x6_1).f2) t174 _ A19.out).mono ?_); rintro e w22 ⟨rfl, hb⟩; refine ⟨_, rfl, ?_⟩; have n0_ := Aside0.mk (below_step (by repeat (first | (with_reducible first | exact HB.out | apply below_alloc | apply pw_below_drewN | apply below_drew1) | exact HB.out)) hb); clear HB; have HB := n0_; clear n0_; (try clear hb); (try clear hb2); (try clear hk); (try clear hi); refine hK.out _ _ ⟨((HB.out.cell (World.block_lt_of_cell? w _ hw172_0)).trans hw172_0), ((HB.out.cell (World.block_lt_of_cell? w _ hw172_1)).trans hw172_1), ((HB.out.cell (World.block_lt_of_cell? w _ hw172_2)).trans hw172_2), ((HB.out.cell (World.block_lt_of_cell? w _ hw173_0)).trans hw173_0), ((HB.out.cell (World.block_lt_of_cell? w _ hw173_1)).trans hw173_1), ((HB.out.cell (World.block_lt_of_cell? w _ hw173_2)).trans hw173_2)⟩ (fun hHeld => ?_); clear hK K; refine norm_ (a' := ?_) ?_ ?_; rotate_left
         ·show Act.put _ (some 38) _ = _; simp only [Act.put, sA, sB, sC, i64_w, i32_w]; rfl
         refine pure_ (i := 13) (N := some 39) (v := ?_) (a' := ?_) kPr151 rfl rfl (any_of HT_.out (by kernel_rfl)) (fun _ _ _ h => h) (Or.inl ⟨by rfl, ?_⟩) ?_ ?_; rotate_left
         ·intro w'; go_simp; with_reducible rfl
         rotate_left
         ·simp only [Act.put, sA, sB, sC, i64_w, i32_w]; rfl
         refine pure_ (i := 14) (N := some 5) (v := ?_) (a' := ?_) kPr150 rfl rfl (any_of HT_.out (by kernel_rfl)) (fun _ _ _ h => h) (Or.inl ⟨by rfl, ?_⟩) ?_ ?_; rotate_left
         ·intro w'; go_simp; with_reducible rfl
         rotate_left
         ·simp only [Act.put, sA, sB, sC, i64_w, i32_w]; rfl
         refine done_ (done_of HT_.out (by kernel_rfl)) ?_; (try go_wp2); go_roundg k1
         case measure => have := HK1.out; omega
         case rel => exact ⟨((x5_1 ++ (⟨#[32]⟩ : ByteArray)) ++ t174), (wrap64 (x6_1 + 1)), (by first | rfl | (simp; done) | (simp [*]; done)), (by first | rfl | (simp; done) | (simp [*]; done)), H', ⟨by have := HK1.out; omega⟩, ⟨by repeat (first | (with_reducible first | exact HB.out | apply below_alloc | apply pw_below_drewN | apply below_drew1) | exact HB.out)⟩⟩
        ·rw [if_neg c20] at H; exact absurd H (by simp)
       ·rw [if_neg c18] at H; exact absurd H (by simp)
      ·rw [if_neg c17] at H; exact absurd H (by simp)
     ·rw [if_neg c16] at H; have c16b0 : decide (0 < x6_1) = false := decide_eq_false c16; clear c16; by_cases c23 : 0 ≤ x6_1
      ·rw [if_pos c23] at H; have c23b0 : decide (0 ≤ x6_1) = true := decide_eq_true c23; clear c23; replace H := Option.bind_eq_some_iff.mp H; obtain ⟨t177, A240, H⟩ := H; replace H : (if x5_1.size + t177.size ≤ 9223372036854775807 then (musterref31_Row.l0 k1 l0 l1 (x5_1 ++ t177) (wrap64 (x6_1 + 1))) else (none)) = some r := H; have A24 := Aside0.mk A240; clear A240; by_cases c25 : x5_1.size + t177.size ≤ 9223372036854775807
       ·rw [if_pos c25] at H; have c25b0 := eq_true c25; have c25b1 : decide (x5_1.size + t177.size ≤ 9223372036854775807) = true := decide_eq_true c25; (try have c25b2 : (9223372036854775807 < x5_1.size + t177.size) = False := eq_false (Nat.not_lt.2 c25)); have H' := Aside0.mk H; clear H; (try go_wp2); have n0_ := Aside0.mk (below_drew1 HB.out); clear HB; have HB := n0_; clear n0_; have p175 : 0 ≤ (x6_1 : Int) := of_decide_eq_true (by first | (with_reducible assumption) | assumption); have q175 : x6_1 < (l0.length : Int) := of_decide_eq_true (by first | (with_reducible assumption) | assumption); obtain ⟨ad175, e175, hx175_0, hx175_1, hx175_2⟩ := at_T49 HR0.out x6_1 p175 q175; have hw175_2 := hx175_2; have hw175_1 := hx175_1; have hw175_0 := hx175_0
        cases e175; replace hx175_0 := (HB.out.cell (World.block_lt_of_cell? w _ hx175_0)).trans hx175_0; replace hx175_1 := (HB.out.cell (World.block_lt_of_cell? w _ hx175_1)).trans hx175_1; replace hx175_2 := (HB.out.cell (World.block_lt_of_cell? w _ hx175_2)).trans hx175_2; replace p175 := eq_true p175; replace q175 := eq_true q175; have p176 : 0 ≤ (x6_1 : Int) := of_decide_eq_true (by first | (with_reducible assumption) | assumption); have q176 : x6_1 < (l0.length : Int) := of_decide_eq_true (by first | (with_reducible assumption) | assumption); obtain ⟨ad176, e176, hx176_0, hx176_1, hx176_2⟩ := at_T49 HR0.out x6_1 p176 q176; have hw176_2 := hx176_2; have hw176_1 := hx176_1; have hw176_0 := hx176_0; (obtain rfl : ad175 = ad176 := (by injection e176)); replace hx176_0 := (HB.out.cell (World.block_lt_of_cell? w _ hx176_0)).trans hx176_0; replace hx176_1 := (HB.out.cell (World.block_lt_of_cell? w _ hx176_1)).trans hx176_1; replace hx176_2 := (HB.out.cell (World.block_lt_of_cell? w _ hx176_2)).trans hx176_2; replace p176 := eq_true p176; replace q176 := eq_true q176; refine start_ (n := 15) (S := fun w' => w'.cell? (ad175.add ((x6_1).toNat * 3)) = some (.string ((rd_T49 l0 x6_1).f0)) ∧ w'.cell? ⟨(ad175.add ((x6_1).toNat * 3)).block, (ad175.add ((x6_1).toNat * 3)).off + 1, none⟩ = some (.int .i64 ((rd_T49 l0 x6_1).f1)) ∧ w'.cell? ⟨(ad175.add ((x6_1).toNat * 3)).block, (ad175.add ((x6_1).toNat * 3)).off + 2, none⟩ = some (.bool ((rd_T49 l0 x6_1).f2)) ∧ w'.cell? (ad175.add ((x6_1).toNat * 3)) = some (.string ((rd_T49 l0 x6_1).f0)) ∧ w'.cell? ⟨(ad175.add ((x6_1).toNat * 3)).block, (ad175.add ((x6_1).toNat * 3)).off + 1, none⟩ = some (.int .i64 ((rd_T49 l0 x6_1).f1)) ∧ w'.cell? ⟨(ad175.add ((x6_1).toNat * 3)).block, (ad175.add ((x6_1).toNat * 3)).off + 2, none⟩ = some (.bool ((rd_T49 l0 x6_1).f2))) (ds := []) kPr1515 (by kernel_rfl) rfl rfl ⟨((HB.out.cell (World.block_lt_of_cell? w _ hw175_0)).trans hw175_0), ((HB.out.cell (World.block_lt_of_cell? w _ hw175_1)).trans hw175_1), ((HB.out.cell (World.block_lt_of_cell? w _ hw175_2)).trans hw175_2), ((HB.out.cell (World.block_lt_of_cell? w _ hw176_0)).trans hw176_0), ((HB.out.cell (World.block_lt_of_cell? w _ hw176_1)).trans hw176_1), ((HB.out.cell (World.block_lt_of_cell? w _ hw176_2)).trans hw176_2)⟩ (fun hHeld => ?_); refine with_tabW musterref31_Row.tab10 musterref31_Row.bits10 (fun HT_ HW_ => ?_); generalize wr.drew = w26 at HB hx175_0 hx175_1 hx175_2 hx176_0 hx176_1 hx176_2 hHeld ⊢; refine pure_ (i := 0) (N := some 26) (v := ?_) (a' := ?_) kPr1514 rfl rfl (any_of HT_.out (by kernel_rfl)) (fun _ _ _ h => h) (Or.inl ⟨by rfl, ?_⟩) ?_ ?_; rotate_left
        ·intro w'; go_simp; with_reducible rfl
        rotate_left
        ·simp only [Act.put, sA, sB, sC, i64_w, i32_w]; rfl
        refine pure_ (i := 1) (N := some 27) (v := ?_) (a' := ?_) kPr1513 rfl rfl (any_of HT_.out (by kernel_rfl)) (fun _ _ _ h => h) (Or.inl ⟨by rfl, ?_⟩) ?_ ?_; rotate_left
        ·intro w'; go_simp; with_reducible rfl
        rotate_left
        ·simp only [Act.put, sA, sB, sC, i64_w, i32_w]; rfl
        refine pure_ (i := 2) (N := some 28) (v := ?_) (a' := ?_) kPr1512 rfl rfl (any_of HT_.out (by kernel_rfl)) (fun _ _ _ h => h) (Or.inl ⟨by rfl, ?_⟩) ?_ ?_; rotate_left
        ·intro w'; go_simp; with_reducible rfl
        rotate_left
        ·simp only [Act.put, sA, sB, sC, i64_w, i32_w]; rfl
        refine pure_ (i := 3) (N := some 29) (v := ?_) (a' := ?_) kPr1511 rfl rfl (any_of HT_.out (by kernel_rfl)) (fun _ _ _ h => h) (Or.inl ⟨by rfl, ?_⟩) ?_ ?_; rotate_left
        ·intro w'; go_simp; with_reducible rfl
        rotate_left
        ·simp only [Act.put, sA, sB, sC, i64_w, i32_w]; rfl
        refine pure_ (i := 4) (N := some 30) (v := ?_) (a' := ?_) kPr1510 rfl rfl (any_of HT_.out (by kernel_rfl)) (fun _ _ _ h => h) (Or.inl ⟨by rfl, ?_⟩) ?_ ?_; rotate_left
        ·intro w'; go_simp; with_reducible rfl
        rotate_left
        ·simp only [Act.put, sA, sB, sC, i64_w, i32_w]; rfl
        refine pure_ (i := 5) (N := some 31) (v := ?_) (a' := ?_) kPr159 rfl rfl (any_of HT_.out (by kernel_rfl)) (fun _ _ _ h => h) (Or.inl ⟨by rfl, ?_⟩) ?_ ?_; rotate_left
        ·intro w'; go_simp; with_reducible rfl
        rotate_left
        ·simp only [Act.put, sA, sB, sC, i64_w, i32_w]; rfl
        refine pure_ (i := 7) (N := some 33) (v := ?_) (a' := ?_) kPr158 rfl rfl (any_of HT_.out (by kernel_rfl)) (fun _ _ _ h => h) (Or.inl ⟨by rfl, ?_⟩) ?_ ?_; rotate_left
        ·intro w'; go_simp; with_reducible rfl
        rotate_left
        ·simp only [Act.put, sA, sB, sC, i64_w, i32_w]; rfl
        refine pure_ (i := 8) (N := some 34) (v := ?_) (a' := ?_) kPr157 rfl rfl (any_of HT_.out (by kernel_rfl)) (fun _ _ _ h => h) (Or.inl ⟨by rfl, ?_⟩) ?_ ?_; rotate_left
        ·intro w'; go_simp; with_reducible rfl
        rotate_left
        ·simp only [Act.put, sA, sB, sC, i64_w, i32_w]; rfl
        refine pure_ (i := 9) (N := some 35) (v := ?_) (a' := ?_) kPr156 rfl rfl (any_of HT_.out (by kernel_rfl)) (fun _ _ _ h => h) (Or.inl ⟨by rfl, ?_⟩) ?_ ?_; rotate_left
        ·intro w'; go_simp; with_reducible rfl
        rotate_left
        ·simp only [Act.put, sA, sB, sC, i64_w, i32_w]; rfl
        refine pure_ (i := 10) (N := some 36) (v := ?_) (a' := ?_) kPr155 rfl rfl (any_of HT_.out (by kernel_rfl)) (fun _ _ _ h => h) (Or.inl ⟨by rfl, ?_⟩) ?_ ?_; rotate_left
        ·intro w'; go_simp; with_reducible rfl
        rotate_left
        ·simp only [Act.put, sA, sB, sC, i64_w, i32_w]; rfl
        refine take_ (i := 6) (N := some 32) (v := ?_) (a' := ?_) kPr154 rfl rfl (take_ofW HT_.out HW_.out (by kernel_rfl)) (fun _ _ _ h => h) (Or.inl ⟨by rfl, ?_⟩) hHeld ?_ ?_; rotate_left
        ·rintro w' ⟨s0, s1, s2, s3, s4, s5⟩; go_simp; with_reducible rfl
        rotate_left
        ·simp only [Act.put, sA, sB, sC, i64_w, i32_w]; rfl
        refine take_ (i := 11) (N := some 37) (v := ?_) (a' := ?_) kPr153 rfl rfl (take_ofW HT_.out HW_.out (by kernel_rfl)) (fun _ _ _ h => h) (Or.inl ⟨by rfl, ?_⟩) hHeld ?_ ?_; rotate_left
        ·rintro w' ⟨s0, s1, s2, s3, s4, s5⟩; go_simp; with_reducible rfl
        rotate_left
        ·simp only [Act.put, sA, sB, sC, i64_w, i32_w]; rfl
        refine one_ (i := 12) (N := some 38) kPr152 rfl rfl (one_of HT_.out (by kernel_rfl)) (by decide) (fun K hK => ?_); refine goes_ Tryd.func15 (by kernel_rfl) rfl #[.string (⟨#[]⟩ : ByteArray), .int .i64 ((rd_T49 l0 x6_1).f1), .bool ((rd_T49 l0 x6_1).f2)] (by rfl) rfl rfl (by (try simp only [List.map_toArray, List.map_cons, List.map_nil]); first | done | rfl | (simp only [List.length_drop, List.length_take]; rfl)) ?_; (with_reducible refine (musterref31_Fit.calls k1 (⟨#[]⟩ : ByteArray) ((rd_T49 l0 x6_1).f1) ((rd_T49 l0 x6_1).f2) t177 _ A24.out).mono ?_); rintro e w27 ⟨rfl, hb⟩; refine ⟨_, rfl, ?_⟩; have n0_ := Aside0.mk (below_step (by repeat (first | (with_reducible first | exact HB.out | apply below_alloc | apply pw_below_drewN | apply below_drew1) | exact HB.out)) hb); clear HB; have HB := n0_; clear n0_; (try clear hb); (try clear hb2); (try clear hk); (try clear hi); refine hK.out _ _ ⟨((HB.out.cell (World.block_lt_of_cell? w _ hw175_0)).trans hw175_0), ((HB.out.cell (World.block_lt_of_cell? w _ hw175_1)).trans hw175_1), ((HB.out.cell (World.block_lt_of_cell? w _ hw175_2)).trans hw175_2), ((HB.out.cell (World.block_lt_of_cell? w _ hw176_0)).trans hw176_0), ((HB.out.cell (World.block_lt_of_cell? w _ hw176_1)).trans hw176_1), ((HB.out.cell (World.block_lt_of_cell? w _ hw176_2)).trans hw176_2)⟩ (fun hHeld => ?_); clear hK K; refine norm_ (a' := ?_) ?_ ?_; rotate_left
        ·show Act.put _ (some 38) _ = _; simp only [Act.put, sA, sB, sC, i64_w, i32_w]; rfl
        refine pure_ (i := 13) (N := some 39) (v := ?_) (a' := ?_) kPr151 rfl rfl (any_of HT_.out (by kernel_rfl)) (fun _ _ _ h => h) (Or.inl ⟨by rfl, ?_⟩) ?_ ?_; rotate_left
        ·intro w'; go_simp; with_reducible rfl
        rotate_left
        ·simp only [Act.put, sA, sB, sC, i64_w, i32_w]; rfl
        refine pure_ (i := 14) (N := some 5) (v := ?_) (a' := ?_) kPr150 rfl rfl (any_of HT_.out (by kernel_rfl)) (fun _ _ _ h => h) (Or.inl ⟨by rfl, ?_⟩) ?_ ?_; rotate_left
        ·intro w'; go_simp; with_reducible rfl
        rotate_left
        ·simp only [Act.put, sA, sB, sC, i64_w, i32_w]; rfl
        refine done_ (done_of HT_.out (by kernel_rfl)) ?_; (try go_wp2); go_roundg k1
        case measure => have := HK1.out; omega
        case rel => exact ⟨(x5_1 ++ t177), (wrap64 (x6_1 + 1)), (by first | rfl | (simp; done) | (simp [*]; done)), (by first | rfl | (simp; done) | (simp [*]; done)), H', ⟨by have := HK1.out; omega⟩, ⟨by repeat (first | (with_reducible first | exact HB.out | apply below_alloc | apply pw_below_drewN | apply below_drew1) | exact HB.out)⟩⟩
       ·rw [if_neg c25] at H; exact absurd H (by simp)
      ·rw [if_neg c23] at H; exact absurd H (by simp)
   ·rw [if_neg c3] at H; have c3b0 : decide (x6_1 < (l0.length : Int)) = false := decide_eq_false c3; clear c3; obtain rfl := Option.some.inj H; go_wp2; go_ret; exact ⟨by first | rfl | (simp [errW_none, errW_some] <;> rfl) | (simp [*, errW_none, errW_some] <;> rfl), by repeat (first | (with_reducible first | exact HB.out | apply below_alloc | apply pw_below_drewN | apply below_drew1) | exact HB.out)⟩

end Go.Proofs.YthlbdbaanlehhaaDoor.Pr

-- MENDED
