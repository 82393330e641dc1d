-- MINIFIED by wip/tools/minify.py
/-
 account's store: rollup, Hours, Days.
-/
import Derived.Test.YtinpgejkkfpckaaHSt
import Derived.Test.YtinpgejkkfpckaaQ2
namespace Go.Proofs.Ytinpgejkkfpckaa.Pr
open Go.RowKit Go.Proofs.YtinpgejkkfpckaaW.PrintWords Go.Proofs.YtinpgejkkfpckaaW.PrintLast Go.Proofs.YtinpgejkkfpckaaW.PrintMore Go.Proofs.YtinpgejkkfpckaaG
set_option linter.unusedVariables false
set_option linter.unusedSimpArgs false
abbrev kRoll0 : Array Bool := #[true, true, true, true, true, true, true, true, true, true]
abbrev kRoll1 : Array Bool := #[true, true, true, true, true, true, true, true, true, false]
abbrev kRoll2 : Array Bool := #[true, true, true, true, true, true, true, true, false, false]
abbrev kRoll3 : Array Bool := #[true, true, true, true, true, true, true, false, false, false]
abbrev kRoll4 : Array Bool := #[true, true, true, true, true, true, false, false, false, false]
abbrev kRoll5 : Array Bool := #[true, true, true, true, true, false, false, false, false, false]
abbrev kRoll6 : Array Bool := #[true, true, true, false, true, false, false, false, false, false]
abbrev kRoll8 : Array Bool := #[true, true, false, false, true, false, false, false, false, false]
abbrev kRoll10 : Array Bool := #[true, true, false, false, false, false, false, false, false, false]
abbrev kRoll12 : Array Bool := #[true, false, false, false, false, false, false, false, false, false]
abbrev kRoll14 : Array Bool := #[false, false, false, false, false, false, false, false, false, false]
def account_put.T0 : Bool × List (List Nat × List Nat) := (true, [([], []), ([], []), ([1], [1]), ([0, 2], [0, 2]), ([], []), ([4, 3], [4]), ([5], [5]), ([5, 6], [5, 6]), ([3, 5, 0, 1, 2, 3], [3]), ([7, 8, 0, 1, 2, 3, 4, 5, 6, 7, 8], [7])])
def account_put.B0 : List Nat := [0, 0, 2, 7, 0, 31, 63, 127, 63, 511]
theorem account_put.tab0 : rtab .any (opsOf Try.f53 0) = account_put.T0 := by kernel_rfl
theorem account_put.bits0 : waitsOk account_put.T0.2 account_put.B0 = true := by kernel_rfl
set_option maxRecDepth 100000 in
set_option maxHeartbeats 2000000 in
theorem put_false (base b1 b2 : Nat) (w0 w : World) (l : List Int) (v : Value) (n : Int) (o : Bool) (h1 : w.heap[b1]? = some (.cells #[v] 22 (0, 0))) (h2 : w.heap[b2]? = some (.cells #[.bool false] 4 (0, 0))) (hR : Kd.R (Kd.int .i64) 2 w base (fun _ => True) v l) (hb1 : base ≤ b1) (hb2 : base ≤ b2)
  (HB : Below base w0 w) (hbs : base ≤ w.heap.size) (hl : l.length ≤ 5000) :
  Calls Try.prog 53 #[.int .i64 n, .bool o, .pointer (some ⟨b1, 0, none⟩), .pointer (some ⟨b2, 0, none⟩)] w fun e w' => e = .returned (.tuple #[]) ∧ ∃ v', w'.heap[b1]? = some (.cells #[v'] 22 (0, 0)) ∧ w'.heap[b2]? = some (.cells #[.bool (false || o)] 4 (0, 0)) ∧ Kd.R (Kd.int .i64) 2 w' base (fun _ => True) v' (l ++ [n]) ∧ Below base w0 w' := by
 have H1 := hd h1
 have H2 := hd h2
 have HR := hd hR
 have HBB := hd HB
 obtain ⟨A0, c0, rfl⟩ := Kd.R_slice hR
 have h12 : b1 ≠ b2 := by rintro rfl; rw [h1] at h2; cases h2
 clear h1 h2 hR HB
 go_enter Try.func53, Try.ntmps53
 go_wp2_with fail
 have H1d : Hd (w.drew.heap[b1]? = _) := hd (H1.out)
 have H2d : Hd (w.drew.heap[b2]? = _) := hd (H2.out)
 have HRd : Hd (Kd.R (Kd.int .i64) 2 w.drew base (fun _ => True) (.slice A0 l.length c0) l) := hd (Kd.R_drewN HR.out 1)
 have HBd : Hd (Below base w0 w.drew) := hd (below_drew1 HBB.out)
 have hbd : base ≤ w.drew.heap.size := hbs
 refine start_ (n := 10) (S := fun w' => w'.cell? ⟨b1, 0, none⟩ = some (.slice A0 l.length c0) ∧ w'.cell? ⟨b2, 0, none⟩ = some (.bool false)) (ds := [8, 9]) kRoll14 (by kernel_rfl) rfl rfl ⟨(blk_cell H1d.out 0).trans rfl, (blk_cell H2d.out 0).trans rfl⟩ (fun hHeld => ?_)
 refine with_tabW account_put.tab0 account_put.bits0 (fun HT_ HW_ => ?_)
 generalize w.drew = wd at H1d H2d HRd HBd hbd hHeld ⊢
 obtain ⟨s0, s1⟩ := hHeld
 have hHeld := And.intro s0 s1
 refine take_ (i := 0) (N := (some 6)) (v := ?_) (a' := ?_) kRoll12 rfl rfl (take_ofW HT_.out HW_.out (by kernel_rfl)) (fun _ _ _ h => h) (Or.inl ⟨by rfl, ?_⟩) hHeld ?_ ?_
 rotate_left
 ·rintro w' ⟨s0, s1⟩
  go_simp
  with_reducible rfl
 rotate_left
 ·simp only [Act.put, List.setIfInBounds_toArray, List.set_cons_zero, List.set_cons_succ, i64_w, i32_w]
  rfl
 refine pure_ (i := 1) (N := (some 7)) (v := ?_) (a' := ?_) kRoll10 rfl rfl (any_of HT_.out (by kernel_rfl)) (fun _ _ _ h => h) (Or.inl ⟨by rfl, ?_⟩) ?_ ?_
 rotate_left
 ·intro w'
  go_simp
  with_reducible rfl
 rotate_left
 ·simp only [Act.put, List.setIfInBounds_toArray, List.set_cons_zero, List.set_cons_succ, i64_w, i32_w]
  rfl
 refine take_ (i := 4) (N := (some 10)) (v := ?_) (a' := ?_) kRoll8 rfl rfl (take_ofW HT_.out HW_.out (by kernel_rfl)) (fun _ _ _ h => h) (Or.inl ⟨by rfl, ?_⟩) hHeld ?_ ?_
 rotate_left
 ·rintro w' ⟨s0, s1⟩
  go_simp
  with_reducible rfl
 rotate_left
 ·simp only [Act.put, List.setIfInBounds_toArray, List.set_cons_zero, List.set_cons_succ, i64_w, i32_w]
  rfl
 refine one_ (i := 2) (N := (some 8)) kRoll6 rfl rfl (one_of HT_.out (by kernel_rfl)) (by decide) (fun K hK => ?_)
 refine value_ (w1 := wd.alloc (.cells #[.int .i64 n] 2)) (v := .slice (some ⟨wd.heap.size, 0, none⟩) 1 1) (by rfl) rfl ?_ ?_
 ·go_simp
 refine hK.out _ _ ⟨pw_cell_below (below_alloc (Below.refl _ _) _) s0, pw_cell_below (below_alloc (Below.refl _ _) _) s1⟩ (fun hHeld => ?_)
 clear hK K
 refine norm_ (a' := ?_) ?_ ?_
 rotate_left
 ·show Act.put _ (some 8) _ = _
  simp only [Act.put, List.setIfInBounds_toArray, List.set_cons_zero, List.set_cons_succ, i64_w, i32_w]
  rfl
 refine one_ (i := 3) (N := (some 9)) kRoll5 rfl rfl (one_of HT_.out (by kernel_rfl)) (by decide) (fun K hK => ?_)
 refine Kd.R_append_step (Kd.int .i64) (w0 := w0) base (by rfl) (.tmp 6) (.tmp 8) 22 2 (.int .i64 0) 8 rfl Try.underlying22 info2 rfl (by decide) (by omega) (.slice A0 l.length c0) l n [.int .i64 n] (fun _ => True) (fun _ => False) (by rfl) (by rfl) rfl (fun _ hk => hk.elim) (fun _ _ => trivial) HRd.out HBd.out hbd (by omega) ?_
 intro v1 w1 hR1 hB1 hg1 hat1
 have e1 : w1.heap[b1]? = some (.cells #[.slice A0 l.length c0] 22 (0, 0)) := blk_grown H1d.out hg1 (Kd.R_ne HRd.out H1d.out (by decide))
 have e2 : w1.heap[b2]? = some (.cells #[.bool false] 4 (0, 0)) := blk_grown H2d.out hg1 (Kd.R_ne HRd.out H2d.out (by decide))
 obtain ⟨A1, n1, c1, hv⟩ : ∃ A n c, v1 = .slice A n c := by obtain ⟨A', c', h⟩ := Kd.R_slice hR1; exact ⟨_, _, _, h⟩
 subst hv
 have HG1 := hd e1
 have HG2 := hd e2
 have HR1 := hd hR1
 have HB1 := hd hB1
 have hs1 : base ≤ w1.heap.size := by have := hg1.size; omega
 clear hR1 hB1 hg1 hat1
 refine hK.out _ _ ⟨(blk_cell e1 0).trans rfl, (blk_cell e2 0).trans rfl⟩ (fun hHeld => ?_)
 clear hK K e1 e2 H1d H2d HRd HBd
 refine norm_ (a' := ?_) ?_ ?_
 rotate_left
 ·show Act.put _ (some 9) _ = _
  simp only [Act.put, List.setIfInBounds_toArray, List.set_cons_zero, List.set_cons_succ, i64_w, i32_w]
  rfl
 refine pure_ (i := 5) (N := (some 11)) (v := ?_) (a' := ?_) kRoll4 rfl rfl (any_of HT_.out (by kernel_rfl)) (fun _ _ _ h => h) (Or.inl ⟨by rfl, ?_⟩) ?_ ?_
 rotate_left
 ·intro w'
  go_simp
  with_reducible rfl
 rotate_left
 ·simp only [Act.put, List.setIfInBounds_toArray, List.set_cons_zero, List.set_cons_succ, i64_w, i32_w]
  rfl
 refine pure_ (i := 6) (N := (some 12)) (v := ?_) (a' := ?_) kRoll3 rfl rfl (any_of HT_.out (by kernel_rfl)) (fun _ _ _ h => h) (Or.inl ⟨by rfl, ?_⟩) ?_ ?_
 rotate_left
 ·intro w'
  go_simp
  with_reducible rfl
 rotate_left
 ·simp only [Act.put, List.setIfInBounds_toArray, List.set_cons_zero, List.set_cons_succ, i64_w, i32_w]
  rfl
 refine pure_ (i := 7) (N := (some 13)) (v := ?_) (a' := ?_) kRoll2 rfl rfl (any_of HT_.out (by kernel_rfl)) (fun _ _ _ h => h) (Or.inl ⟨by rfl, ?_⟩) ?_ ?_
 rotate_left
 ·intro w'
  go_simp
  with_reducible rfl
 rotate_left
 ·simp only [Act.put, List.setIfInBounds_toArray, List.set_cons_zero, List.set_cons_succ, i64_w, i32_w]
  rfl
 refine last_ (i := 8) (N := none) kRoll1 rfl rfl (one_of HT_.out (by kernel_rfl)) (by decide) (fun K hK => ?_)
 have c1f := (blk_cell HG1.out 0).trans rfl
 have f1f := blk_frozen HG1.out 0
 refine skip_ (w1 := w1.setCell ⟨b1, 0, none⟩ (.slice A1 n1 c1)) (by rfl) rfl ?_ ?_
 ·go_simp
 have k1 : (w1.setCell ⟨b1, 0, none⟩ (.slice A1 n1 c1)).heap[b1]? = some (.cells #[.slice A1 n1 c1] 22 (0, 0)) := blk_put HG1.out 0 _ rfl
 have k2 : (w1.setCell ⟨b1, 0, none⟩ (.slice A1 n1 c1)).heap[b2]? = some (.cells #[.bool false] 4 (0, 0)) := blk_far HG2.out (fun e => h12 e.symm) _
 have kR := Kd.R_set HR1.out HG1.out (by decide) 0 (.slice A1 n1 c1)
 have kB : Below base w0 (w1.setCell ⟨b1, 0, none⟩ (.slice A1 n1 c1)) := HB1.out.setCell (p := ⟨b1, 0, none⟩) hb1 _
 have kz : base ≤ (w1.setCell ⟨b1, 0, none⟩ (.slice A1 n1 c1)).heap.size := by simpa [World.setCell] using hs1
 refine hK.out _ _ ?_
 clear hK K c1f f1f HG1 HG2 HR1 HB1 hHeld
 have HG1 := hd k1
 have HG2 := hd k2
 have HR1 := hd kR
 have HB1 := hd kB
 clear k1 k2 kR kB
 generalize w1.setCell ⟨b1, 0, none⟩ (.slice A1 n1 c1) = w2 at HG1 HG2 HR1 HB1 kz ⊢
 refine last_ (i := 9) (N := none) kRoll0 rfl rfl (one_of HT_.out (by kernel_rfl)) (by decide) (fun K hK => ?_)
 have c2f := (blk_cell HG2.out 0).trans rfl
 have f2f := blk_frozen HG2.out 0
 refine skip_ (w1 := w2.setCell ⟨b2, 0, none⟩ (.bool o)) (by rfl) rfl ?_ ?_
 ·go_simp
 have HF2 : Hd ((w2.setCell ⟨b2, 0, none⟩ (.bool o)).heap[b2]? = some (.cells #[.bool o] 4 (0, 0))) := hd (blk_put HG2.out 0 _ rfl)
 have HF1 : Hd ((w2.setCell ⟨b2, 0, none⟩ (.bool o)).heap[b1]? = some (.cells #[.slice A1 n1 c1] 22 (0, 0))) := hd (blk_far HG1.out h12 _)
 have HRF := hd (Kd.R_set HR1.out HG2.out (by decide) 0 (.bool o))
 have HBF : Hd (Below base w0 (w2.setCell ⟨b2, 0, none⟩ (.bool o))) := hd (HB1.out.setCell (p := ⟨b2, 0, none⟩) hb2 _)
 refine hK.out _ _ ?_
 clear hK K c2f f2f HG1 HG2 HR1 HB1
 have HG1 := HF1
 have HG2 := HF2
 clear HF1 HF2
 refine done_ (done_of HT_.out (by kernel_rfl)) ?_
 clear HT_ HW_
 refine bodyPost_end (results_none rfl _ _ _) rfl ?_
 exact ⟨rfl, .slice A1 n1 c1, HG1.out, HG2.out, HRF.out, HBF.out⟩
set_option maxRecDepth 100000 in
set_option maxHeartbeats 2000000 in
theorem put_true (base b1 b2 : Nat) (w0 w : World) (l : List Int) (v : Value) (n : Int) (o : Bool) (h1 : w.heap[b1]? = some (.cells #[v] 22 (0, 0))) (h2 : w.heap[b2]? = some (.cells #[.bool true] 4 (0, 0))) (hR : Kd.R (Kd.int .i64) 2 w base (fun _ => True) v l) (hb1 : base ≤ b1) (hb2 : base ≤ b2)
  (HB : Below base w0 w) (hbs : base ≤ w.heap.size) (hl : l.length ≤ 5000) :
  Calls Try.prog 53 #[.int .i64 n, .bool o, .pointer (some ⟨b1, 0, none⟩), .pointer (some ⟨b2, 0, none⟩)] w fun e w' => e = .returned (.tuple #[]) ∧ ∃ v', w'.heap[b1]? = some (.cells #[v'] 22 (0, 0)) ∧ w'.heap[b2]? = some (.cells #[.bool (true || o)] 4 (0, 0)) ∧ Kd.R (Kd.int .i64) 2 w' base (fun _ => True) v' (l ++ [n]) ∧ Below base w0 w' := by
 have H1 := hd h1
 have H2 := hd h2
 have HR := hd hR
 have HBB := hd HB
 obtain ⟨A0, c0, rfl⟩ := Kd.R_slice hR
 have h12 : b1 ≠ b2 := by rintro rfl; rw [h1] at h2; cases h2
 clear h1 h2 hR HB
 go_enter Try.func53, Try.ntmps53
 go_wp2_with fail
 have H1d : Hd (w.drew.heap[b1]? = _) := hd (H1.out)
 have H2d : Hd (w.drew.heap[b2]? = _) := hd (H2.out)
 have HRd : Hd (Kd.R (Kd.int .i64) 2 w.drew base (fun _ => True) (.slice A0 l.length c0) l) := hd (Kd.R_drewN HR.out 1)
 have HBd : Hd (Below base w0 w.drew) := hd (below_drew1 HBB.out)
 have hbd : base ≤ w.drew.heap.size := hbs
 refine start_ (n := 10) (S := fun w' => w'.cell? ⟨b1, 0, none⟩ = some (.slice A0 l.length c0) ∧ w'.cell? ⟨b2, 0, none⟩ = some (.bool true)) (ds := [8, 9]) kRoll14 (by kernel_rfl) rfl rfl ⟨(blk_cell H1d.out 0).trans rfl, (blk_cell H2d.out 0).trans rfl⟩ (fun hHeld => ?_)
 refine with_tabW account_put.tab0 account_put.bits0 (fun HT_ HW_ => ?_)
 generalize w.drew = wd at H1d H2d HRd HBd hbd hHeld ⊢
 obtain ⟨s0, s1⟩ := hHeld
 have hHeld := And.intro s0 s1
 refine take_ (i := 0) (N := (some 6)) (v := ?_) (a' := ?_) kRoll12 rfl rfl (take_ofW HT_.out HW_.out (by kernel_rfl)) (fun _ _ _ h => h) (Or.inl ⟨by rfl, ?_⟩) hHeld ?_ ?_
 rotate_left
 ·rintro w' ⟨s0, s1⟩
  go_simp
  with_reducible rfl
 rotate_left
 ·simp only [Act.put, List.setIfInBounds_toArray, List.set_cons_zero, List.set_cons_succ, i64_w, i32_w]
  rfl
 refine pure_ (i := 1) (N := (some 7)) (v := ?_) (a' := ?_) kRoll10 rfl rfl (any_of HT_.out (by kernel_rfl)) (fun _ _ _ h => h) (Or.inl ⟨by rfl, ?_⟩) ?_ ?_
 rotate_left
 ·intro w'
  go_simp
  with_reducible rfl
 rotate_left
 ·simp only [Act.put, List.setIfInBounds_toArray, List.set_cons_zero, List.set_cons_succ, i64_w, i32_w]
  rfl
 refine take_ (i := 4) (N := (some 10)) (v := ?_) (a' := ?_) kRoll8 rfl rfl (take_ofW HT_.out HW_.out (by kernel_rfl)) (fun _ _ _ h => h) (Or.inl ⟨by rfl, ?_⟩) hHeld ?_ ?_
 rotate_left
 ·rintro w' ⟨s0, s1⟩
  go_simp
  with_reducible rfl
 rotate_left
 ·simp only [Act.put, List.setIfInBounds_toArray, List.set_cons_zero, List.set_cons_succ, i64_w, i32_w]
  rfl
 refine one_ (i := 2) (N := (some 8)) kRoll6 rfl rfl (one_of HT_.out (by kernel_rfl)) (by decide) (fun K hK => ?_)
 refine value_ (w1 := wd.alloc (.cells #[.int .i64 n] 2)) (v := .slice (some ⟨wd.heap.size, 0, none⟩) 1 1) (by rfl) rfl ?_ ?_
 ·go_simp
 refine hK.out _ _ ⟨pw_cell_below (below_alloc (Below.refl _ _) _) s0, pw_cell_below (below_alloc (Below.refl _ _) _) s1⟩ (fun hHeld => ?_)
 clear hK K
 refine norm_ (a' := ?_) ?_ ?_
 rotate_left
 ·show Act.put _ (some 8) _ = _
  simp only [Act.put, List.setIfInBounds_toArray, List.set_cons_zero, List.set_cons_succ, i64_w, i32_w]
  rfl
 refine one_ (i := 3) (N := (some 9)) kRoll5 rfl rfl (one_of HT_.out (by kernel_rfl)) (by decide) (fun K hK => ?_)
 refine Kd.R_append_step (Kd.int .i64) (w0 := w0) base (by rfl) (.tmp 6) (.tmp 8) 22 2 (.int .i64 0) 8 rfl Try.underlying22 info2 rfl (by decide) (by omega) (.slice A0 l.length c0) l n [.int .i64 n] (fun _ => True) (fun _ => False) (by rfl) (by rfl) rfl (fun _ hk => hk.elim) (fun _ _ => trivial) HRd.out HBd.out hbd (by omega) ?_
 intro v1 w1 hR1 hB1 hg1 hat1
 have e1 : w1.heap[b1]? = some (.cells #[.slice A0 l.length c0] 22 (0, 0)) := blk_grown H1d.out hg1 (Kd.R_ne HRd.out H1d.out (by decide))
 have e2 : w1.heap[b2]? = some (.cells #[.bool true] 4 (0, 0)) := blk_grown H2d.out hg1 (Kd.R_ne HRd.out H2d.out (by decide))
 obtain ⟨A1, n1, c1, hv⟩ : ∃ A n c, v1 = .slice A n c := by obtain ⟨A', c', h⟩ := Kd.R_slice hR1; exact ⟨_, _, _, h⟩
 subst hv
 have HG1 := hd e1
 have HG2 := hd e2
 have HR1 := hd hR1
 have HB1 := hd hB1
 have hs1 : base ≤ w1.heap.size := by have := hg1.size; omega
 clear hR1 hB1 hg1 hat1
 refine hK.out _ _ ⟨(blk_cell e1 0).trans rfl, (blk_cell e2 0).trans rfl⟩ (fun hHeld => ?_)
 clear hK K e1 e2 H1d H2d HRd HBd
 refine norm_ (a' := ?_) ?_ ?_
 rotate_left
 ·show Act.put _ (some 9) _ = _
  simp only [Act.put, List.setIfInBounds_toArray, List.set_cons_zero, List.set_cons_succ, i64_w, i32_w]
  rfl
 refine pure_ (i := 5) (N := (some 11)) (v := ?_) (a' := ?_) kRoll4 rfl rfl (any_of HT_.out (by kernel_rfl)) (fun _ _ _ h => h) (Or.inl ⟨by rfl, ?_⟩) ?_ ?_
 rotate_left
 ·intro w'
  go_simp
  with_reducible rfl
 rotate_left
 ·simp only [Act.put, List.setIfInBounds_toArray, List.set_cons_zero, List.set_cons_succ, i64_w, i32_w]
  rfl
 refine pure_ (i := 6) (N := (some 12)) (v := undef) (a' := ?_) kRoll3 rfl rfl (any_of HT_.out (by kernel_rfl)) (fun _ _ _ h => h) (Or.inr ⟨by rfl, rfl⟩) ?_ ?_
 rotate_left
 ·simp only [Act.put, List.setIfInBounds_toArray, List.set_cons_zero, List.set_cons_succ, i64_w, i32_w]
  rfl
 refine pure_ (i := 7) (N := (some 13)) (v := ?_) (a' := ?_) kRoll2 rfl rfl (any_of HT_.out (by kernel_rfl)) (fun _ _ _ h => h) (Or.inl ⟨by rfl, ?_⟩) ?_ ?_
 rotate_left
 ·intro w'
  go_simp
  with_reducible rfl
 rotate_left
 ·simp only [Act.put, List.setIfInBounds_toArray, List.set_cons_zero, List.set_cons_succ, i64_w, i32_w]
  rfl
 refine last_ (i := 8) (N := none) kRoll1 rfl rfl (one_of HT_.out (by kernel_rfl)) (by decide) (fun K hK => ?_)
 have c1f := (blk_cell HG1.out 0).trans rfl
 have f1f := blk_frozen HG1.out 0
 refine skip_ (w1 := w1.setCell ⟨b1, 0, none⟩ (.slice A1 n1 c1)) (by rfl) rfl ?_ ?_
 ·go_simp
 have k1 : (w1.setCell ⟨b1, 0, none⟩ (.slice A1 n1 c1)).heap[b1]? = some (.cells #[.slice A1 n1 c1] 22 (0, 0)) := blk_put HG1.out 0 _ rfl
 have k2 : (w1.setCell ⟨b1, 0, none⟩ (.slice A1 n1 c1)).heap[b2]? = some (.cells #[.bool true] 4 (0, 0)) := blk_far HG2.out (fun e => h12 e.symm) _
 have kR := Kd.R_set HR1.out HG1.out (by decide) 0 (.slice A1 n1 c1)
 have kB : Below base w0 (w1.setCell ⟨b1, 0, none⟩ (.slice A1 n1 c1)) := HB1.out.setCell (p := ⟨b1, 0, none⟩) hb1 _
 have kz : base ≤ (w1.setCell ⟨b1, 0, none⟩ (.slice A1 n1 c1)).heap.size := by simpa [World.setCell] using hs1
 refine hK.out _ _ ?_
 clear hK K c1f f1f HG1 HG2 HR1 HB1 hHeld
 have HG1 := hd k1
 have HG2 := hd k2
 have HR1 := hd kR
 have HB1 := hd kB
 clear k1 k2 kR kB
 generalize w1.setCell ⟨b1, 0, none⟩ (.slice A1 n1 c1) = w2 at HG1 HG2 HR1 HB1 kz ⊢
 refine last_ (i := 9) (N := none) kRoll0 rfl rfl (one_of HT_.out (by kernel_rfl)) (by decide) (fun K hK => ?_)
 have c2f := (blk_cell HG2.out 0).trans rfl
 have f2f := blk_frozen HG2.out 0
 refine skip_ (w1 := w2.setCell ⟨b2, 0, none⟩ (.bool true)) (by rfl) rfl ?_ ?_
 ·go_simp
 have HF2 : Hd ((w2.setCell ⟨b2, 0, none⟩ (.bool true)).heap[b2]? = some (.cells #[.bool true] 4 (0, 0))) := hd (blk_put HG2.out 0 _ rfl)
 have HF1 : Hd ((w2.setCell ⟨b2, 0, none⟩ (.bool true)).heap[b1]? = some (.cells #[.slice A1 n1 c1] 22 (0, 0))) := hd (blk_far HG1.out h12 _)
 have HRF := hd (Kd.R_set HR1.out HG2.out (by decide) 0 (.bool true))
 have HBF : Hd (Below base w0 (w2.setCell ⟨b2, 0, none⟩ (.bool true))) := hd (HB1.out.setCell (p := ⟨b2, 0, none⟩) hb2 _)
 refine hK.out _ _ ?_
 clear hK K c2f f2f HG1 HG2 HR1 HB1
 have HG1 := HF1
 have HG2 := HF2
 clear HF1 HF2
 refine done_ (done_of HT_.out (by kernel_rfl)) ?_
 clear HT_ HW_
 refine bodyPost_end (results_none rfl _ _ _) rfl ?_
 exact ⟨rfl, .slice A1 n1 c1, HG1.out, HG2.out, HRF.out, HBF.out⟩
def account_rollup.T4 : Bool × List (List Nat × List Nat) := (true, [([], []), ([], []), ([0, 1], [0, 1]), ([], []), ([], []), ([3, 4], [3, 4]), ([5], [5]), ([], []), ([6, 7], [6, 7]), ([2, 0, 1, 2], [2]), ([8, 9, 0, 1, 2, 3, 4, 5, 6, 7, 8, 9], [8])])
def account_rollup.B4 : List Nat := [0, 0, 3, 0, 0, 24, 56, 0, 248, 7, 1023]
theorem account_rollup.tab4 : rtab .any (opsOf Try.f40 4) = account_rollup.T4 := by kernel_rfl
theorem account_rollup.bits4 : waitsOk account_rollup.T4.2 account_rollup.B4 = true := by kernel_rfl
def account_rollup.T16 : Bool × List (List Nat × List Nat) := (true, [([], []), ([], []), ([0, 0], [0]), ([1, 2, 0, 1, 2], [1]), ([3, 0, 1, 2, 3], [])])
def account_rollup.B16 : List Nat := [0, 0, 1, 7, 15]
theorem account_rollup.tab16 : rtab .any (opsOf Try.f40 16) = account_rollup.T16 := by kernel_rfl
theorem account_rollup.bits16 : waitsOk account_rollup.T16.2 account_rollup.B16 = true := by kernel_rfl
theorem put_any (a : Bool) (base b1 b2 : Nat) (w0 w : World) (l : List Int) (v : Value) (n : Int) (o : Bool) (h1 : w.heap[b1]? = some (.cells #[v] 22 (0, 0))) (h2 : w.heap[b2]? = some (.cells #[.bool a] 4 (0, 0))) (hR : Kd.R (Kd.int .i64) 2 w base (fun _ => True) v l) (hb1 : base ≤ b1) (hb2 : base ≤ b2)
  (HB : Below base w0 w) (hbs : base ≤ w.heap.size) (hl : l.length ≤ 5000) :
  Calls Try.prog 53 #[.int .i64 n, .bool o, .pointer (some ⟨b1, 0, none⟩), .pointer (some ⟨b2, 0, none⟩)] w fun e w' => e = .returned (.tuple #[]) ∧ ∃ v', w'.heap[b1]? = some (.cells #[v'] 22 (0, 0)) ∧ w'.heap[b2]? = some (.cells #[.bool (a || o)] 4 (0, 0)) ∧ Kd.R (Kd.int .i64) 2 w' base (fun _ => True) v' (l ++ [n]) ∧ Below base w0 w' := by
 cases a
 ·exact put_false base b1 b2 w0 w l v n o h1 h2 hR hb1 hb2 HB hbs hl
 ·exact put_true base b1 b2 w0 w l v n o h1 h2 hR hb1 hb2 HB hbs hl
/-- How many spans. -/
def rollN (fr tt span : Int) : Nat := if fr = tt then 0 else ((tt + span - 1) / span - fr / span).toNat
/-- What was used in the first n spans. -/
def rollL (S : Int → Int → Int × Bool) (span first : Int) : Nat → List Int × Bool
 | 0 => ([], false)
 | n + 1 => ((rollL S span first n).1 ++ [(S (span * (first + n)) (span * (first + n + 1))).1], (rollL S span first n).2 || (S (span * (first + n)) (span * (first + n + 1))).2)
theorem rollL_len (S : Int → Int → Int × Bool) (span first : Int) : ∀ n, (rollL S span first n).1.length = n
 | 0 => rfl
 | n + 1 => by simp [rollL, rollL_len S span first n]
def totalP (P : List Past) (ids : List Int) (acc : ByteArray) (a b : Int) : Int × Bool := sumP 0 (usedL P acc a b ids)
theorem usedP_i64 (r : RunT) (a b : Int) : i64 (usedP r a b) := by
 unfold usedP
 split
 ·exact ⟨by decide, by decide⟩
 ·unfold wrap64 i64
  constructor <;> omega
theorem total_sum (P : List Past) (ids : List Int) (acc : ByteArray) (a b : Int) (hl : ids.length ≤ 4096) : account_Sum.f 5000 (usedL P acc a b ids) = some ((totalP P ids acc a b).1, (totalP P ids acc a b).2) := by
 have h := usedL_len P acc a b ids
 refine sum_spec _ (by omega) (fun x hx => ?_) 5000 (by omega)
 unfold usedL at hx
 obtain ⟨id, _, rfl⟩ := List.mem_map.1 hx
 exact usedP_i64 _ _ _
/-- What rollup tells. -/
def rollR (P : List Past) (ids : List Int) (acc : ByteArray) (fr tt span : Int) : List Int × Bool × Int :=
 if wrongP fr tt = 0 then if 1000 < rollN fr tt span then ([], false, 3) else ((rollL (totalP P ids acc) span (fr / span) (rollN fr tt span)).1, (rollL (totalP P ids acc) span (fr / span) (rollN fr tt span)).2, 0) else ([], false, wrongP fr tt)
theorem quo1 {fr span : Int} (hs : span = 3600 ∨ span = 86400) (h : 0 ≤ fr) (h' : fr ≤ 1099511627776) : wrap64 (fr.tdiv span) = fr / span := by
 rw [Int.tdiv_eq_ediv_of_nonneg h, w64]
 rcases hs with rfl | rfl <;> (constructor <;> omega)
theorem quo2 {tt span : Int} (hs : span = 3600 ∨ span = 86400) (h : 0 ≤ tt) (h' : tt ≤ 1099511627776) : wrap64 ((wrap64 (wrap64 (tt + span) - 1)).tdiv span) = (tt + span - 1) / span := by
 have hb : 3600 ≤ span ∧ span ≤ 86400 := by omega
 rw [w64 (x := tt + span) ⟨by omega, by omega⟩, w64 (x := tt + span - 1) ⟨by omega, by omega⟩, Int.tdiv_eq_ediv_of_nonneg (by omega), w64]
 rcases hs with rfl | rfl <;> (constructor <;> omega)
theorem mul_w {a span : Int} (hs : span = 3600 ∨ span = 86400) (h : 0 ≤ a) (h' : a ≤ 305429897) : wrap64 (span * a) = span * a := by
 refine w64 ?_
 rcases hs with rfl | rfl <;> (constructor <;> omega)
theorem div_le {a b s : Int} (hs : s = 3600 ∨ s = 86400) (h : a ≤ b) : a / s ≤ b / s := by rcases hs with rfl | rfl <;> omega
set_option maxRecDepth 100000 in
set_option maxHeartbeats 2000000 in
theorem roll_st {w : World} {base s : Nat} {ok : Nat → Prop} {P : List Past} {ids : List Int} (h : St w base ok s P ids) (hl : ids.length ≤ 4096) (acc : ByteArray) (fr tt span : Int) (hsp : span = 3600 ∨ span = 86400) :
  Calls Try.prog 40 #[.pointer (some ⟨s, 0, none⟩), .string acc, .int .i64 fr, .int .i64 tt, .int .i64 span] w fun e w' => ∃ v, e = .returned (.tuple #[v, .bool (rollR P ids acc fr tt span).2.1, .int .i64 (rollR P ids acc fr tt span).2.2]) ∧ Kd.R (Kd.int .i64) 2 w' w.heap.size (fun _ => True) v (rollR P ids acc fr tt span).1 ∧ Below w.heap.size w w' := by
 have H := hd h
 clear h
 go_enter Try.func40, Try.ntmps40
 go_wp2_with fail
 refine (wrong_st H.out fr tt).mono ?_
 rintro e w1 ⟨rfl, b1⟩
 have HB1 := hd b1
 have H1 := hd (H.out.below b1)
 clear b1
 obtain ⟨q, hq⟩ : ∃ q, wrongP fr tt = q := ⟨_, rfl⟩
 have HQ := hd hq
 rw [hq]
 clear hq
 by_cases hz : q = 0
 ·subst hz
  have hwr : 0 ≤ fr ∧ fr ≤ tt ∧ tt ≤ 1099511627776 := by
   have := HQ.out
   unfold wrongP at this
   split at this
   ·cases this
   ·omega
  obtain ⟨g1, g2, g3⟩ := hwr
  have hs0 : ¬ span = 0 := by omega
  have hs1 : ¬ span = -1 := by omega
  go_wp2_with fail
  refine start_ (n := 11) (S := fun w' => True) (ds := []) #[false, false, false, false, false, false, false, false, false, false, false] (by kernel_rfl) rfl rfl trivial (fun hHeld => ?_)
  refine with_tabW account_rollup.tab4 account_rollup.bits4 (fun HT_ HW_ => ?_)
  refine pure_ (i := 0) (N := (some 27)) (v := ?_) (a' := ?_) #[true, false, false, false, false, false, false, false, false, false, false] rfl rfl (any_of HT_.out (by kernel_rfl)) (fun _ _ _ h => h) (Or.inl ⟨by rfl, ?_⟩) ?_ ?_
  rotate_left
  ·intro w'
   go_simp
   with_reducible rfl
  rotate_left
  ·simp only [Act.put, List.setIfInBounds_toArray, List.set_cons_zero, List.set_cons_succ, i64_w, i32_w]
   rfl
  refine pure_ (i := 1) (N := (some 28)) (v := ?_) (a' := ?_) #[true, true, false, false, false, false, false, false, false, false, false] rfl rfl (any_of HT_.out (by kernel_rfl)) (fun _ _ _ h => h) (Or.inl ⟨by rfl, ?_⟩) ?_ ?_
  rotate_left
  ·intro w'
   go_simp
   with_reducible rfl
  rotate_left
  ·simp only [Act.put, List.setIfInBounds_toArray, List.set_cons_zero, List.set_cons_succ, i64_w, i32_w]
   rfl
  refine pure_ (i := 2) (N := (some 29)) (v := ?_) (a' := ?_) #[true, true, true, false, false, false, false, false, false, false, false] rfl rfl (any_of HT_.out (by kernel_rfl)) (fun _ _ _ h => h) (Or.inl ⟨by rfl, ?_⟩) ?_ ?_
  rotate_left
  ·intro w'
   go_simp
   with_reducible rfl
  rotate_left
  ·simp only [Act.put, List.setIfInBounds_toArray, List.set_cons_zero, List.set_cons_succ, i64_w, i32_w]
   rfl
  refine pure_ (i := 3) (N := (some 30)) (v := ?_) (a' := ?_) #[true, true, true, true, false, false, false, false, false, false, false] rfl rfl (any_of HT_.out (by kernel_rfl)) (fun _ _ _ h => h) (Or.inl ⟨by rfl, ?_⟩) ?_ ?_
  rotate_left
  ·intro w'
   go_simp
   with_reducible rfl
  rotate_left
  ·simp only [Act.put, List.setIfInBounds_toArray, List.set_cons_zero, List.set_cons_succ, i64_w, i32_w]
   rfl
  refine pure_ (i := 4) (N := (some 31)) (v := ?_) (a' := ?_) #[true, true, true, true, true, false, false, false, false, false, false] rfl rfl (any_of HT_.out (by kernel_rfl)) (fun _ _ _ h => h) (Or.inl ⟨by rfl, ?_⟩) ?_ ?_
  rotate_left
  ·intro w'
   go_simp
   with_reducible rfl
  rotate_left
  ·simp only [Act.put, List.setIfInBounds_toArray, List.set_cons_zero, List.set_cons_succ, i64_w, i32_w]
   rfl
  refine pure_ (i := 5) (N := (some 32)) (v := ?_) (a' := ?_) #[true, true, true, true, true, true, false, false, false, false, false] rfl rfl (any_of HT_.out (by kernel_rfl)) (fun _ _ _ h => h) (Or.inl ⟨by rfl, ?_⟩) ?_ ?_
  rotate_left
  ·intro w'
   go_simp
   with_reducible rfl
  rotate_left
  ·simp only [Act.put, List.setIfInBounds_toArray, List.set_cons_zero, List.set_cons_succ, i64_w, i32_w]
   rfl
  refine pure_ (i := 6) (N := (some 33)) (v := ?_) (a' := ?_) #[true, true, true, true, true, true, true, false, false, false, false] rfl rfl (any_of HT_.out (by kernel_rfl)) (fun _ _ _ h => h) (Or.inl ⟨by rfl, ?_⟩) ?_ ?_
  rotate_left
  ·intro w'
   go_simp
   with_reducible rfl
  rotate_left
  ·simp only [Act.put, List.setIfInBounds_toArray, List.set_cons_zero, List.set_cons_succ, i64_w, i32_w]
   rfl
  refine pure_ (i := 7) (N := (some 34)) (v := ?_) (a' := ?_) #[true, true, true, true, true, true, true, true, false, false, false] rfl rfl (any_of HT_.out (by kernel_rfl)) (fun _ _ _ h => h) (Or.inl ⟨by rfl, ?_⟩) ?_ ?_
  rotate_left
  ·intro w'
   go_simp
   with_reducible rfl
  rotate_left
  ·simp only [Act.put, List.setIfInBounds_toArray, List.set_cons_zero, List.set_cons_succ, i64_w, i32_w]
   rfl
  refine pure_ (i := 8) (N := (some 35)) (v := ?_) (a' := ?_) #[true, true, true, true, true, true, true, true, true, false, false] rfl rfl (any_of HT_.out (by kernel_rfl)) (fun _ _ _ h => h) (Or.inl ⟨by rfl, ?_⟩) ?_ ?_
  rotate_left
  ·intro w'
   go_simp
   with_reducible rfl
  rotate_left
  ·simp only [Act.put, List.setIfInBounds_toArray, List.set_cons_zero, List.set_cons_succ, i64_w, i32_w]
   rfl
  refine pure_ (i := 9) (N := (some 14)) (v := ?_) (a' := ?_) #[true, true, true, true, true, true, true, true, true, true, false] rfl rfl (any_of HT_.out (by kernel_rfl)) (fun _ _ _ h => h) (Or.inl ⟨by rfl, ?_⟩) ?_ ?_
  rotate_left
  ·intro w'
   go_simp
   with_reducible rfl
  rotate_left
  ·simp only [Act.put, List.setIfInBounds_toArray, List.set_cons_zero, List.set_cons_succ, i64_w, i32_w]
   rfl
  refine pure_ (i := 10) (N := (some 15)) (v := ?_) (a' := ?_) #[true, true, true, true, true, true, true, true, true, true, true] rfl rfl (any_of HT_.out (by kernel_rfl)) (fun _ _ _ h => h) (Or.inl ⟨by rfl, ?_⟩) ?_ ?_
  rotate_left
  ·intro w'
   go_simp
   with_reducible rfl
  rotate_left
  ·simp only [Act.put, List.setIfInBounds_toArray, List.set_cons_zero, List.set_cons_succ, i64_w, i32_w]
   rfl
  refine done_ (done_of HT_.out (by kernel_rfl)) ?_
  clear HT_ HW_
  rw [quo1 hsp g1 (by omega), quo2 hsp (by omega) g3]
  have HF : Hd (0 ≤ fr / span ∧ fr / span ≤ 305419897 ∧ 0 ≤ (tt + span - 1) / span ∧ (tt + span - 1) / span ≤ 305419897 ∧ fr / span ≤ (tt + span - 1) / span) := hd (by rcases hsp with rfl | rfl <;> omega)
  have HB2 : Hd (Below w.heap.size w w1.drew) := hd (below_drew1 HB1.out)
  have H2 : Hd (St w1.drew base ok s P ids) := hd (H1.out.drewN 1)
  clear HB1 H1 hHeld
  generalize w1.drew = w2 at HB2 H2 ⊢
  by_cases hft : fr = tt
  ·have HN : Hd (rollN fr tt span = 0) := hd (by unfold rollN; rw [if_pos hft])
   obtain ⟨fi, hfi⟩ : ∃ fi, fr / span = fi := ⟨_, rfl⟩
   rw [hfi] at HF ⊢
   have HFI := hd hfi
   clear hfi
   generalize (tt + span - 1) / span = la at HF ⊢
   obtain ⟨n, hn⟩ : ∃ n : Nat, n = 0 := ⟨_, rfl⟩
   rw [← hn] at HN
   obtain ⟨f1, f2, f3, f4, f5⟩ := HF.out
   have HLA : Hd (fi = fi + (n : Int)) := hd (by omega)
   clear HF f3 f4 f5
   have HZ := hd hn
   clear hn
   have hw := w64 (x := fi - fi) ⟨by omega, by omega⟩
   by_cases hn1 : 1000 < n
   ·have := HZ.out
    omega
   ·have HE : Hd (rollR P ids acc fr tt span = ((rollL (totalP P ids acc) span fi n).1, (rollL (totalP P ids acc) span fi n).2, 0)) := hd (by unfold rollR; rw [HQ.out, if_pos rfl, HN.out, if_neg hn1, HFI.out])
    have hn2 : ¬ 1000 < fi - fi := by have := HLA.out; omega
    go_wp2
    have hz2 := Below.refl w2.heap.size w2
    have HW := hd (below_alloc (below_alloc hz2 (.cells #[.slice none 0 0] 22)) (.cells #[.bool false] 4))
    have HC1 : Hd (((w2.alloc (.cells #[.slice none 0 0] 22)).alloc (.cells #[.bool false] 4)).heap[w2.heap.size]? = some (.cells #[.slice none 0 0] 22 (0, 0))) := hd (blk_alloc (blk_new w2 _) _)
    have HC2 : Hd (((w2.alloc (.cells #[.slice none 0 0] 22)).alloc (.cells #[.bool false] 4)).heap[w2.heap.size + 1]? = some (.cells #[.bool false] 4 (0, 0))) := hd (by have h1 := blk_new (w2.alloc (.cells #[.slice none 0 0] 22)) (.cells #[.bool false] 4); rwa [show (w2.alloc (.cells #[.slice none 0 0] 22)).heap.size = w2.heap.size + 1 by simp] at h1)
    have HS2 := hd HB2.out.size
    clear hz2
    go_loopw [19] (fun kv wr => ∃ j : Nat, j ≤ n ∧ kv = .int .i64 (fi + (j : Int)) ∧ Hd (∃ v, wr.heap[w2.heap.size]? = some (.cells #[v] 22 (0, 0)) ∧ Kd.R (Kd.int .i64) 2 wr w.heap.size (fun _ => True) v (rollL (totalP P ids acc) span fi j).1) ∧ Hd (wr.heap[w2.heap.size + 1]? = some (.cells #[.bool (rollL (totalP P ids acc) span fi j).2] 4 (0, 0))) ∧ Hd (Below w.heap.size w wr)) (fun kv _ => (fi - intOf kv).toNat)
    case atStart => exact ⟨0, by omega, by simp, hd ⟨_, HC1.out, Kd.R_nil _ _ _ _ _⟩, HC2, hd (below_then HB2.out HB2.out.size HW.out)⟩
    case round =>
     obtain ⟨j, hj, rfl, HV, HO, HB⟩ := hrel
     by_cases hlt : j < n
     ·have hlt' : fi + (j : Int) < fi := by have := HLA.out; omega
      obtain ⟨v, hv1, hv2⟩ := HV.out
      have HV1 := hd hv1
      have HV2 := hd hv2
      clear HV hv1 hv2
      exfalso
      have := HZ.out
      omega
     ·have hlt' : ¬ fi + (j : Int) < fi := by have := HLA.out; omega
      obtain rfl : j = n := by omega
      obtain ⟨v, hv1, hv2⟩ := HV.out
      obtain ⟨Av, cv, rfl⟩ := Kd.R_slice hv2
      have HV1 := hd hv1
      have HV2 := hd hv2
      clear hv1 hv2 HV
      go_wp2_with fail
      refine start_ (n := 5) (S := fun w' => w'.cell? ⟨w2.heap.size, 0, none⟩ = some (.slice Av (rollL (totalP P ids acc) span fi j).1.length cv) ∧ w'.cell? ⟨w2.heap.size + 1, 0, none⟩ = some (.bool (rollL (totalP P ids acc) span fi j).2)) (ds := []) #[false, false, false, false, false] (by kernel_rfl) rfl rfl ⟨(blk_cell HV1.out 0).trans rfl, (blk_cell HO.out 0).trans rfl⟩ (fun hHeld => ?_)
      refine with_tabW account_rollup.tab16 account_rollup.bits16 (fun HT_ HW_ => ?_)
      refine take_ (i := 0) (N := (some 65)) (v := ?_) (a' := ?_) #[true, false, false, false, false] rfl rfl (take_ofW HT_.out HW_.out (by kernel_rfl)) (fun _ _ _ h => h) (Or.inl ⟨by rfl, ?_⟩) hHeld ?_ ?_
      rotate_left
      ·rintro w' ⟨s0, s1⟩
       go_simp
       with_reducible rfl
      rotate_left
      ·simp only [Act.put, List.setIfInBounds_toArray, List.set_cons_zero, List.set_cons_succ, i64_w, i32_w]
       rfl
      refine take_ (i := 1) (N := (some 66)) (v := ?_) (a' := ?_) #[true, true, false, false, false] rfl rfl (take_ofW HT_.out HW_.out (by kernel_rfl)) (fun _ _ _ h => h) (Or.inl ⟨by rfl, ?_⟩) hHeld ?_ ?_
      rotate_left
      ·rintro w' ⟨s0, s1⟩
       go_simp
       with_reducible rfl
      rotate_left
      ·simp only [Act.put, List.setIfInBounds_toArray, List.set_cons_zero, List.set_cons_succ, i64_w, i32_w]
       rfl
      refine pure_ (i := 2) (N := (some 10)) (v := ?_) (a' := ?_) #[true, true, true, false, false] rfl rfl (any_of HT_.out (by kernel_rfl)) (fun _ _ _ h => h) (Or.inl ⟨by rfl, ?_⟩) ?_ ?_
      rotate_left
      ·intro w'
       go_simp
       with_reducible rfl
      rotate_left
      ·simp only [Act.put, List.setIfInBounds_toArray, List.set_cons_zero, List.set_cons_succ, i64_w, i32_w]
       rfl
      refine pure_ (i := 3) (N := (some 11)) (v := ?_) (a' := ?_) #[true, true, true, true, false] rfl rfl (any_of HT_.out (by kernel_rfl)) (fun _ _ _ h => h) (Or.inl ⟨by rfl, ?_⟩) ?_ ?_
      rotate_left
      ·intro w'
       go_simp
       with_reducible rfl
      rotate_left
      ·simp only [Act.put, List.setIfInBounds_toArray, List.set_cons_zero, List.set_cons_succ, i64_w, i32_w]
       rfl
      refine pure_ (i := 4) (N := (some 12)) (v := ?_) (a' := ?_) #[true, true, true, true, true] rfl rfl (any_of HT_.out (by kernel_rfl)) (fun _ _ _ h => h) (Or.inl ⟨by rfl, ?_⟩) ?_ ?_
      rotate_left
      ·intro w'
       go_simp
       with_reducible rfl
      rotate_left
      ·simp only [Act.put, List.setIfInBounds_toArray, List.set_cons_zero, List.set_cons_succ, i64_w, i32_w]
       rfl
      refine done_ (done_of HT_.out (by kernel_rfl)) ?_
      clear HT_ HW_
      go_wp2
      refine bodyPost_ret (results_list (rs := [.tmp 10, .tmp 11, .tmp 12]) rfl (by simp) (.tmp (.tmp (.tmp .nil)))) rfl ?_
      rw [HE.out]
      exact ⟨_, rfl, Kd.R_drewN HV2.out 1, below_drew1 HB.out⟩
  ·have HN : Hd (rollN fr tt span = ((tt + span - 1) / span - fr / span).toNat) := hd (by unfold rollN; rw [if_neg hft])
   obtain ⟨fi, hfi⟩ : ∃ fi, fr / span = fi := ⟨_, rfl⟩
   rw [hfi] at HF HN ⊢
   have HFI := hd hfi
   clear hfi
   generalize (tt + span - 1) / span = la at HF HN ⊢
   obtain ⟨f1, f2, f3, f4, f5⟩ := HF.out
   obtain ⟨n, hn⟩ : ∃ n : Nat, (la - fi).toNat = n := ⟨_, rfl⟩
   rw [hn] at HN
   have HLA : Hd (la = fi + (n : Int)) := hd (by omega)
   clear HF hn
   have hw := w64 (x := la - fi) ⟨by omega, by omega⟩
   by_cases hn1 : 1000 < n
   ·have HE : Hd (rollR P ids acc fr tt span = ([], false, 3)) := hd (by unfold rollR; rw [HQ.out, if_pos rfl, HN.out, if_pos hn1])
    have hn2 : 1000 < la - fi := by have := HLA.out; omega
    go_wp2
    refine bodyPost_ret (results_list (rs := [.tmp 10, .tmp 11, .tmp 12]) rfl (by simp) (.tmp (.tmp (.tmp .nil)))) rfl ?_
    rw [HE.out]
    exact ⟨_, rfl, Kd.R_nil _ _ _ _ _, HB2.out⟩
   ·have HE : Hd (rollR P ids acc fr tt span = ((rollL (totalP P ids acc) span fi n).1, (rollL (totalP P ids acc) span fi n).2, 0)) := hd (by unfold rollR; rw [HQ.out, if_pos rfl, HN.out, if_neg hn1, HFI.out])
    have hn2 : ¬ 1000 < la - fi := by have := HLA.out; omega
    go_wp2
    have hz2 := Below.refl w2.heap.size w2
    have HW := hd (below_alloc (below_alloc hz2 (.cells #[.slice none 0 0] 22)) (.cells #[.bool false] 4))
    have HC1 : Hd (((w2.alloc (.cells #[.slice none 0 0] 22)).alloc (.cells #[.bool false] 4)).heap[w2.heap.size]? = some (.cells #[.slice none 0 0] 22 (0, 0))) := hd (blk_alloc (blk_new w2 _) _)
    have HC2 : Hd (((w2.alloc (.cells #[.slice none 0 0] 22)).alloc (.cells #[.bool false] 4)).heap[w2.heap.size + 1]? = some (.cells #[.bool false] 4 (0, 0))) := hd (by have h1 := blk_new (w2.alloc (.cells #[.slice none 0 0] 22)) (.cells #[.bool false] 4); rwa [show (w2.alloc (.cells #[.slice none 0 0] 22)).heap.size = w2.heap.size + 1 by simp] at h1)
    have HS2 := hd HB2.out.size
    clear hz2
    go_loopw [19] (fun kv wr => ∃ j : Nat, j ≤ n ∧ kv = .int .i64 (fi + (j : Int)) ∧ Hd (∃ v, wr.heap[w2.heap.size]? = some (.cells #[v] 22 (0, 0)) ∧ Kd.R (Kd.int .i64) 2 wr w.heap.size (fun _ => True) v (rollL (totalP P ids acc) span fi j).1) ∧ Hd (wr.heap[w2.heap.size + 1]? = some (.cells #[.bool (rollL (totalP P ids acc) span fi j).2] 4 (0, 0))) ∧ Hd (Below w.heap.size w wr)) (fun kv _ => (la - intOf kv).toNat)
    case atStart => exact ⟨0, by omega, by simp, hd ⟨_, HC1.out, Kd.R_nil _ _ _ _ _⟩, HC2, hd (below_then HB2.out HB2.out.size HW.out)⟩
    case round =>
     obtain ⟨j, hj, rfl, HV, HO, HB⟩ := hrel
     by_cases hlt : j < n
     ·have hlt' : fi + (j : Int) < la := by have := HLA.out; omega
      obtain ⟨v, hv1, hv2⟩ := HV.out
      have HV1 := hd hv1
      have HV2 := hd hv2
      clear HV hv1 hv2
      have hj3 : (j : Int) ≤ 1000 := by omega
      go_wp2_with fail
      rw [mul_w hsp (by omega) (by omega), mul_w hsp (by omega) (by omega)]
      refine (total_st (H.out.below HB.out) hl 5000 acc _ _ _ _ (total_sum P ids acc _ _ hl)).mono ?_
      rintro e w3 ⟨rfl, b3⟩
      have HV3 := hd (blk_below HV1.out b3)
      have HO3 := hd (blk_below HO.out b3)
      have HR3 := hd (Kd.R_below HV2.out b3)
      have HB3 : Hd (Below w.heap.size w w3) := hd (below_then HB.out HB.out.size b3)
      clear b3 HV1 HV2 HO HB
      obtain ⟨tn, htn⟩ : ∃ q, (totalP P ids acc (span * (fi + (j : Int))) (span * (fi + (j : Int) + 1))) = q := ⟨_, rfl⟩
      have HTN := hd htn
      rw [htn]
      clear htn
      obtain ⟨tn1, tn2⟩ := tn
      go_wp2_with fail
      refine (put_any _ w.heap.size w2.heap.size (w2.heap.size + 1) w w3 _ v tn1 tn2 HV3.out HO3.out HR3.out HS2.out (Nat.le_succ_of_le HS2.out) HB3.out HB3.out.size (by rw [rollL_len]; omega)).mono ?_
      rintro e w4 ⟨rfl, v4, k1, k2, k3, k4⟩
      have K1 := hd k1
      have K2 := hd k2
      have K3 := hd k3
      have K4 := hd k4
      clear k1 k2 k3 k4
      go_wp2
      go_roundw
      case rel => exact ⟨j + 1, by omega, by go_num, hd ⟨v4, K1.out, by have h_ := K3.out; rw [show (rollL (totalP P ids acc) span fi (j + 1)).1 = (rollL (totalP P ids acc) span fi j).1 ++ [tn1] from by simp only [rollL, HTN.out]]; exact h_⟩, hd (by have h_ := K2.out; rw [show (rollL (totalP P ids acc) span fi (j + 1)).2 = ((rollL (totalP P ids acc) span fi j).2 || tn2) from by simp only [rollL, HTN.out]]; exact h_), K4⟩
      case measure => simp [intOf]; omega
     ·have hlt' : ¬ fi + (j : Int) < la := by have := HLA.out; omega
      obtain rfl : j = n := by omega
      obtain ⟨v, hv1, hv2⟩ := HV.out
      obtain ⟨Av, cv, rfl⟩ := Kd.R_slice hv2
      have HV1 := hd hv1
      have HV2 := hd hv2
      clear hv1 hv2 HV
      go_wp2_with fail
      refine start_ (n := 5) (S := fun w' => w'.cell? ⟨w2.heap.size, 0, none⟩ = some (.slice Av (rollL (totalP P ids acc) span fi j).1.length cv) ∧ w'.cell? ⟨w2.heap.size + 1, 0, none⟩ = some (.bool (rollL (totalP P ids acc) span fi j).2)) (ds := []) #[false, false, false, false, false] (by kernel_rfl) rfl rfl ⟨(blk_cell HV1.out 0).trans rfl, (blk_cell HO.out 0).trans rfl⟩ (fun hHeld => ?_)
      refine with_tabW account_rollup.tab16 account_rollup.bits16 (fun HT_ HW_ => ?_)
      refine take_ (i := 0) (N := (some 65)) (v := ?_) (a' := ?_) #[true, false, false, false, false] rfl rfl (take_ofW HT_.out HW_.out (by kernel_rfl)) (fun _ _ _ h => h) (Or.inl ⟨by rfl, ?_⟩) hHeld ?_ ?_
      rotate_left
      ·rintro w' ⟨s0, s1⟩
       go_simp
       with_reducible rfl
      rotate_left
      ·simp only [Act.put, List.setIfInBounds_toArray, List.set_cons_zero, List.set_cons_succ, i64_w, i32_w]
       rfl
      refine take_ (i := 1) (N := (some 66)) (v := ?_) (a' := ?_) #[true, true, false, false, false] rfl rfl (take_ofW HT_.out HW_.out (by kernel_rfl)) (fun _ _ _ h => h) (Or.inl ⟨by rfl, ?_⟩) hHeld ?_ ?_
      rotate_left
      ·rintro w' ⟨s0, s1⟩
       go_simp
       with_reducible rfl
      rotate_left
      ·simp only [Act.put, List.setIfInBounds_toArray, List.set_cons_zero, List.set_cons_succ, i64_w, i32_w]
       rfl
      refine pure_ (i := 2) (N := (some 10)) (v := ?_) (a' := ?_) #[true, true, true, false, false] rfl rfl (any_of HT_.out (by kernel_rfl)) (fun _ _ _ h => h) (Or.inl ⟨by rfl, ?_⟩) ?_ ?_
      rotate_left
      ·intro w'
       go_simp
       with_reducible rfl
      rotate_left
      ·simp only [Act.put, List.setIfInBounds_toArray, List.set_cons_zero, List.set_cons_succ, i64_w, i32_w]
       rfl
      refine pure_ (i := 3) (N := (some 11)) (v := ?_) (a' := ?_) #[true, true, true, true, false] rfl rfl (any_of HT_.out (by kernel_rfl)) (fun _ _ _ h => h) (Or.inl ⟨by rfl, ?_⟩) ?_ ?_
      rotate_left
      ·intro w'
       go_simp
       with_reducible rfl
      rotate_left
      ·simp only [Act.put, List.setIfInBounds_toArray, List.set_cons_zero, List.set_cons_succ, i64_w, i32_w]
       rfl
      refine pure_ (i := 4) (N := (some 12)) (v := ?_) (a' := ?_) #[true, true, true, true, true] rfl rfl (any_of HT_.out (by kernel_rfl)) (fun _ _ _ h => h) (Or.inl ⟨by rfl, ?_⟩) ?_ ?_
      rotate_left
      ·intro w'
       go_simp
       with_reducible rfl
      rotate_left
      ·simp only [Act.put, List.setIfInBounds_toArray, List.set_cons_zero, List.set_cons_succ, i64_w, i32_w]
       rfl
      refine done_ (done_of HT_.out (by kernel_rfl)) ?_
      clear HT_ HW_
      go_wp2
      refine bodyPost_ret (results_list (rs := [.tmp 10, .tmp 11, .tmp 12]) rfl (by simp) (.tmp (.tmp (.tmp .nil)))) rfl ?_
      rw [HE.out]
      exact ⟨_, rfl, Kd.R_drewN HV2.out 1, below_drew1 HB.out⟩
 ·have HE : Hd (rollR P ids acc fr tt span = ([], false, q)) := hd (by unfold rollR; rw [HQ.out, if_neg hz])
  go_wp2
  refine bodyPost_ret (results_list (rs := [.tmp 10, .tmp 11, .tmp 12]) rfl (by simp) (.tmp (.tmp (.tmp .nil)))) rfl ?_
  rw [HE.out]
  exact ⟨_, rfl, Kd.R_nil _ _ _ _ _, HB1.out⟩
end Go.Proofs.Ytinpgejkkfpckaa.Pr
