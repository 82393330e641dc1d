-- MINIFIED by wip/tools/minify.py
/-
 Texts of this session, laid together by wip/tools/merge.py: HSend, HStale, HOld, HNew, HOnceA.
-/
import Derived.Test.YtafnjlgdjhegaaaHOnceL
import Derived.Deep.CutBlock
import Derived.Deep.DeepCutAuto
import Derived.Test.YtafnjlgdjhegaaaHDone
import Derived.Test.YtafnjlgdjhegaaaHTakes
section
namespace Go.Proofs.Ytafnjlgdjhegaaa.Pr
open Go.RowKit Go.Proofs.YtafnjlgdjhegaaaW.PrintWords Go.Proofs.YtafnjlgdjhegaaaW.PrintLast Go.Proofs.YtafnjlgdjhegaaaW.PrintMore Go.Proofs.YtafnjlgdjhegaaaG
set_option linter.unusedVariables false
set_option linter.unusedSimpArgs false
abbrev knceA0 : Array Bool := #[true, true, true, true, true, true, true, true, true, true, true]
abbrev knceA1 : Array Bool := #[true, true, true, true, true, true, true, true, true, true, false]
abbrev knceA2 : Array Bool := #[true, true, true, true, true, true, true, true, true, false, false]
abbrev knceA3 : Array Bool := #[true, true, true, true, true, true, true, true, false, false, false]
abbrev knceA4 : Array Bool := #[true, true, true, true, true, true, true, false, false, false, false]
abbrev knceA5 : Array Bool := #[true, true, true, true, true, true, false, false, false, false, false]
abbrev knceA6 : Array Bool := #[true, true, true, true, true, true, true, true, true, true, true, true]
abbrev knceA7 : Array Bool := #[true, true, true, true, true, false, false, false, false, false, false]
abbrev knceA8 : Array Bool := #[true, true, true, true, true, true, true, true, true, true, true, false]
abbrev knceA9 : Array Bool := #[true, true, true, true, false, false, false, false, false, false, false]
abbrev knceA10 : Array Bool := #[true, true, true, true, true, true, true, true, true, true, false, false]
abbrev knceA11 : Array Bool := #[true, true, true, false, false, false, false, false, false, false, false]
abbrev knceA12 : Array Bool := #[true, true, true, true, true, true, true, true, true, false, false, false]
abbrev knceA13 : Array Bool := #[true, true, false, false, false, false, false, false, false, false, false]
abbrev knceA14 : Array Bool := #[true, true, true, true, true, true, true, true, false, false, false, false]
abbrev knceA15 : Array Bool := #[true, false, false, false, false, false, false, false, false, false, false]
abbrev knceA16 : Array Bool := #[true, true, true, true, true, true, true, false, false, false, false, false]
abbrev knceA17 : Array Bool := #[false, false, false, false, false, false, false, false, false, false, false]
abbrev knceA18 : Array Bool := #[true, true, true, true, true, true, false, false, false, false, false, false]
abbrev knceA19 : Array Bool := #[true, true, true, true, true, false, false, false, false, false, false, false]
abbrev knceA20 : Array Bool := #[true, true, true, true, false, false, false, false, false, false, false, false]
abbrev knceA21 : Array Bool := #[true, true, true, false, false, false, false, false, false, false, false, false]
abbrev knceA22 : Array Bool := #[true, true, false, false, false, false, false, false, false, false, false, false]
abbrev knceA23 : Array Bool := #[true, false, false, false, false, false, false, false, false, false, false, false]
abbrev knceA24 : Array Bool := #[false, false, false, false, false, false, false, false, false, false, false, false]
abbrev knceA63 : Array Bool := #[true, true, true, true, true, true, true, true, true, true, true, true, true, true, true, true, true, true, true, true]
abbrev knceA65 : Array Bool := #[true, true, true, true, true, true, true, true, true, true, true, true, true, true, true, true, true, true, true, false]
abbrev knceA67 : Array Bool := #[true, true, true, true, true, true, true, true, true, true, true, true, true, true, true, true, true, true, false, false]
abbrev knceA69 : Array Bool := #[true, true, true, true, true, true, true, true, true, true, true, true, true, true, true, true, true, false, false, false]
abbrev knceA71 : Array Bool := #[true, true, true, true, true, true, true, true, true, true, true, true, true, true, true, true, false, false, false, false]
abbrev knceA73 : Array Bool := #[true, true, true, true, true, true, true, true, true, true, true, true, true, true, true, false, false, false, false, false]
abbrev knceA75 : Array Bool := #[true, true, true, true, true, true, true, true, true, true, true, true, true, true, false, false, false, false, false, false]
abbrev knceA77 : Array Bool := #[true, true, true, true, true, true, true, true, true, true, true, true, true, false, false, false, false, false, false, false]
abbrev knceA79 : Array Bool := #[true, true, true, true, true, true, true, true, true, true, true, true, false, false, false, false, false, false, false, false]
abbrev knceA81 : Array Bool := #[true, true, true, true, true, true, true, true, true, true, true, false, false, false, false, false, false, false, false, false]
abbrev knceA83 : Array Bool := #[true, true, true, true, true, true, true, true, true, true, false, false, false, false, false, false, false, false, false, false]
abbrev knceA85 : Array Bool := #[true, true, true, true, true, true, true, true, true, false, false, false, false, false, false, false, false, false, false, false]
abbrev knceA87 : Array Bool := #[true, true, true, true, true, true, true, true, false, false, false, false, false, false, false, false, false, false, false, false]
abbrev knceA89 : Array Bool := #[true, true, true, true, true, true, true, false, false, false, false, false, false, false, false, false, false, false, false, false]
abbrev knceA91 : Array Bool := #[true, true, true, true, true, true, false, false, false, false, false, false, false, false, false, false, false, false, false, false]
abbrev knceA92 : Array Bool := #[true, true, true, true, true, false, false, false, false, false, false, false, false, false, false, false, false, false, false, false]
abbrev knceA93 : Array Bool := #[true, true, true, true, false, false, false, false, false, false, false, false, false, false, false, false, false, false, false, false]
abbrev knceA94 : Array Bool := #[true, true, true, false, false, false, false, false, false, false, false, false, false, false, false, false, false, false, false, false]
abbrev knceA95 : Array Bool := #[true, true, false, false, false, false, false, false, false, false, false, false, false, false, false, false, false, false, false, false]
abbrev knceA96 : Array Bool := #[true, false, false, false, false, false, false, false, false, false, false, false, false, false, false, false, false, false, false, false]
abbrev knceA97 : Array Bool := #[false, false, false, false, false, false, false, false, false, false, false, false, false, false, false, false, false, false, false, false]
abbrev knceA98 : Array Bool := #[true, true, true, true, true, true, true, true, true, true, true, true, true, true, true, true, true, true, true, true, true, true, true, true, true, true]
abbrev knceA99 : Array Bool := #[true, true, true, true, true, true, true, true, true, true, true, true, true, true, true, true, true, true, true, true, true, true, true, true, true, false]
abbrev knceA100 : Array Bool := #[true, true, true, true, true, true, true, true, true, true, true, true, true, true, true, true, true, true, true, true, true, true, true, true, false, false]
abbrev knceA101 : Array Bool := #[true, true, true, true, true, true, true, true, true, true, true, true, true, true, true, true, true, true, true, true, true, true, true, false, false, false]
abbrev knceA102 : Array Bool := #[true, true, true, true, true, true, true, true, true, true, true, true, true, true, true, true, true, true, true, true, true, true, false, false, false, false]
abbrev knceA103 : Array Bool := #[true, true, true, true, true, true, true, true, true, true, true, true, true, true, true, true, true, true, true, true, true, false, false, false, false, false]
abbrev knceA104 : Array Bool := #[true, true, true, true, true, true, true, true, true, true, true, true, true, true, true, true, true, true, true, true, false, false, false, false, false, false]
abbrev knceA105 : Array Bool := #[true, true, true, true, true, true, true, true, true, true, true, true, true, true, true, true, true, true, true, false, false, false, false, false, false, false]
abbrev knceA106 : Array Bool := #[true, true, true, true, true, true, true, true, true, true, true, true, true, true, true, true, true, true, false, false, false, false, false, false, false, false]
abbrev knceA107 : Array Bool := #[true, true, true, true, true, true, true, true, true, true, true, true, true, true, true, true, true, false, false, false, false, false, false, false, false, false]
abbrev knceA108 : Array Bool := #[true, true, true, true, true, true, true, true, true, true, true, true, true, true, true, true, false, false, false, false, false, false, false, false, false, false]
abbrev knceA109 : Array Bool := #[true, true, true, true, true, true, true, true, true, true, true, true, true, true, true, false, false, false, false, false, false, false, false, false, false, false]
abbrev knceA110 : Array Bool := #[true, true, true, true, true, true, true, true, true, true, true, true, true, true, false, false, false, false, false, false, false, false, false, false, false, false]
abbrev knceA111 : Array Bool := #[true, true, true, true, true, true, true, true, true, true, true, true, true, false, false, false, false, false, false, false, false, false, false, false, false, false]
abbrev knceA112 : Array Bool := #[true, true, true, true, true, true, true, true, true, true, true, true, false, false, false, false, false, false, false, false, false, false, false, false, false, false]
abbrev knceA113 : Array Bool := #[true, true, true, true, true, true, true, true, true, true, true, false, false, false, false, false, false, false, false, false, false, false, false, false, false, false]
abbrev knceA114 : Array Bool := #[true, true, true, true, true, true, true, true, true, true, false, false, false, false, false, false, false, false, false, false, false, false, false, false, false, false]
abbrev knceA115 : Array Bool := #[true, true, true, true, true, true, true, true, true, false, false, false, false, false, false, false, false, false, false, false, false, false, false, false, false, false]
abbrev knceA116 : Array Bool := #[true, true, true, true, true, true, true, true, false, false, false, false, false, false, false, false, false, false, false, false, false, false, false, false, false, false]
abbrev knceA117 : Array Bool := #[true, true, true, true, true, true, true, false, false, false, false, false, false, false, false, false, false, false, false, false, false, false, false, false, false, false]
abbrev knceA118 : Array Bool := #[true, true, true, true, true, true, false, false, false, false, false, false, false, false, false, false, false, false, false, false, false, false, false, false, false, false]
abbrev knceA119 : Array Bool := #[true, true, true, true, true, false, false, false, false, false, false, false, false, false, false, false, false, false, false, false, false, false, false, false, false, false]
abbrev knceA120 : Array Bool := #[true, true, true, true, false, false, false, false, false, false, false, false, false, false, false, false, false, false, false, false, false, false, false, false, false, false]
abbrev knceA121 : Array Bool := #[true, true, true, false, false, false, false, false, false, false, false, false, false, false, false, false, false, false, false, false, false, false, false, false, false, false]
abbrev knceA122 : Array Bool := #[true, true, false, false, false, false, false, false, false, false, false, false, false, false, false, false, false, false, false, false, false, false, false, false, false, false]
abbrev knceA123 : Array Bool := #[true, false, false, false, false, false, false, false, false, false, false, false, false, false, false, false, false, false, false, false, false, false, false, false, false, false]
abbrev knceA124 : Array Bool := #[false, false, false, false, false, false, false, false, false, false, false, false, false, false, false, false, false, false, false, false, false, false, false, false, false, false]
def send.T0 : Bool × List (List Nat × List Nat) := (true, [([], []), ([], []), ([1], [1]), ([2], [2]), ([3], [3]), ([], []), ([], []), ([5], [5]), ([7], [7]), ([8, 6], [6, 8]), ([9], [9]), ([10], [10]), ([], []), ([], []), ([], []), ([13], [13]), ([15], [15]), ([16, 14], [14, 16]), ([17], [17]), ([18], [18]), ([11, 12, 19], [11, 12, 19]), ([20], [20]), ([4, 21], [4, 21]), ([0, 0, 1, 2, 3, 4, 5, 6, 7, 8, 9, 10, 11, 12, 13, 14, 15, 16, 17, 18, 19, 20, 21, 22], [0]), ([23, 0, 1, 2, 3, 4, 5, 6, 7, 8, 9, 10, 11, 12, 13, 14, 15, 16, 17, 18, 19, 20, 21, 22], [23]), ([24, 22, 22, 0, 1, 2, 3, 4, 5, 6, 7, 8, 9, 10, 11, 12, 13, 14, 15, 16, 17, 18, 19, 20, 21, 22], [22, 24])])
def send.B0 : List Nat := [0, 0, 2, 6, 14, 0, 0, 32, 160, 480, 992, 2016, 0, 0, 0, 8192, 40960, 122880, 253952, 516096, 1048544, 2097120, 4194302, 8388607, 16777215, 33554431]
theorem send.tab0 : rtab .any (opsOf Try.f31 0) = send.T0 := by kernel_rfl
theorem send.bits0 : waitsOk send.T0.2 send.B0 = true := by kernel_rfl
set_option maxRecDepth 100000 in
set_option maxHeartbeats 4000000 in
theorem send_walk (base g : Nat) (w0 w : World) (cs : Array Value) (s : Ws) (vl vt vb : Value) (vw : Nat → Value) (bd bf : Nat → Nat) (k : Nat) (r : Int) (hk : k < 4) (h : Lay base g w cs s vl vt vb vw bd bf) (hB : Below base w0 w) (hlen : s.tos.length ≤ 1000000) :
  Calls Try.prog 31 #[.pointer (some ⟨g, 0, none⟩), .int .i64 (k : Int), .int .i64 r] w fun e w' => e = .returned (.tuple #[]) ∧ LayM base g w' { s with tos := s.tos ++ [((s.a k).id, r, (s.a k).ak)] } ∧ Below base w0 w' := by
 have HL := hd h
 have HB := hd hB
 have hk4 : (k : Int) < 4 := by omega
 have hu62 := Try.underlying62
 have hu67 := Try.underlying67
 have hu50 := Try.underlying50
 clear h hB
 go_enter Try.func31, Try.ntmps31
 go_wp2_with fail
 refine start_ (n := 26) (S := fun w' => w'.cell? ⟨g, 17, none⟩ = some vt ∧ w'.cell? ⟨g, 1 + k * 4, none⟩ = some (.int .i64 (s.a k).id) ∧ w'.cell? ⟨g, 1 + k * 4 + 2, none⟩ = some (.int .i64 (s.a k).ak)) (ds := [22, 23, 24, 25]) knceA124 (by kernel_rfl) rfl rfl (by exact ⟨(blk_cell HL.out.hg 17).trans HL.out.cells.ct, (blk_cell HL.out.hg _).trans (HL.out.cells.ca k hk).1, (blk_cell HL.out.hg _).trans (HL.out.cells.ca k hk).2.2.1⟩) (fun hHeld => ?_)
 refine with_tabW send.tab0 send.bits0 (fun HT_ HW_ => ?_)
 have HL0 := HL
 have HL : Hd (Lay base g w.drew _ _ _ _ _ _ _ _) := hd (HL0.out.below (below_drew1 (Below.refl _ _)))
 have HB0 := HB
 have HB : Hd (Below base w0 w.drew) := hd (below_drew1 HB0.out)
 clear HL0 HB0
 have hbs : base ≤ w.drew.heap.size := HL.out.bs
 generalize w.drew = w at HL HB hHeld hbs ⊢
 refine pure_ (i := 0) (N := (some 6)) (v := ?_) (a' := ?_) knceA123 rfl rfl (any_of HT_.out (by kernel_rfl)) (fun _ _ _ h => h) (Or.inl ⟨by rfl, ?_⟩) ?_ ?_
 rotate_left
 ·intro w'
  go_simp
  with_reducible rfl
 rotate_left
 ·simp only [Act.put, List.setIfInBounds_toArray, List.set_cons_zero, List.set_cons_succ, i64_w, i32_w]
  rfl
 refine pure_ (i := 1) (N := (some 7)) (v := ?_) (a' := ?_) knceA122 rfl rfl (any_of HT_.out (by kernel_rfl)) (fun _ _ _ h => h) (Or.inl ⟨by rfl, ?_⟩) ?_ ?_
 rotate_left
 ·intro w'
  go_simp
  with_reducible rfl
 rotate_left
 ·simp only [Act.put, List.setIfInBounds_toArray, List.set_cons_zero, List.set_cons_succ, i64_w, i32_w]
  rfl
 refine pure_ (i := 2) (N := (some 8)) (v := ?_) (a' := ?_) knceA121 rfl rfl (any_of HT_.out (by kernel_rfl)) (fun _ _ _ h => h) (Or.inl ⟨by rfl, ?_⟩) ?_ ?_
 rotate_left
 ·intro w'
  go_simp
  with_reducible rfl
 rotate_left
 ·simp only [Act.put, List.setIfInBounds_toArray, List.set_cons_zero, List.set_cons_succ, i64_w, i32_w]
  rfl
 refine pure_ (i := 3) (N := (some 9)) (v := ?_) (a' := ?_) knceA120 rfl rfl (any_of HT_.out (by kernel_rfl)) (fun _ _ _ h => h) (Or.inl ⟨by rfl, ?_⟩) ?_ ?_
 rotate_left
 ·intro w'
  go_simp
  with_reducible rfl
 rotate_left
 ·simp only [Act.put, List.setIfInBounds_toArray, List.set_cons_zero, List.set_cons_succ, i64_w, i32_w]
  rfl
 refine take_ (i := 4) (N := (some 10)) (v := ?_) (a' := ?_) knceA119 rfl rfl (take_ofW HT_.out HW_.out (by kernel_rfl)) (fun _ _ _ h => h) (Or.inl ⟨by rfl, ?_⟩) hHeld ?_ ?_
 rotate_left
 ·rintro w' ⟨s0, s1, s2⟩
  go_simp
  with_reducible rfl
 rotate_left
 ·simp only [Act.put, List.setIfInBounds_toArray, List.set_cons_zero, List.set_cons_succ, i64_w, i32_w]
  rfl
 refine pure_ (i := 5) (N := (some 11)) (v := ?_) (a' := ?_) knceA118 rfl rfl (any_of HT_.out (by kernel_rfl)) (fun _ _ _ h => h) (Or.inl ⟨by rfl, ?_⟩) ?_ ?_
 rotate_left
 ·intro w'
  go_simp
  with_reducible rfl
 rotate_left
 ·simp only [Act.put, List.setIfInBounds_toArray, List.set_cons_zero, List.set_cons_succ, i64_w, i32_w]
  rfl
 refine pure_ (i := 6) (N := (some 12)) (v := ?_) (a' := ?_) knceA117 rfl rfl (any_of HT_.out (by kernel_rfl)) (fun _ _ _ h => h) (Or.inl ⟨by rfl, ?_⟩) ?_ ?_
 rotate_left
 ·intro w'
  go_simp
  with_reducible rfl
 rotate_left
 ·simp only [Act.put, List.setIfInBounds_toArray, List.set_cons_zero, List.set_cons_succ, i64_w, i32_w]
  rfl
 refine pure_ (i := 7) (N := (some 13)) (v := ?_) (a' := ?_) knceA116 rfl rfl (any_of HT_.out (by kernel_rfl)) (fun _ _ _ h => h) (Or.inl ⟨by rfl, ?_⟩) ?_ ?_
 rotate_left
 ·intro w'
  go_simp
  with_reducible rfl
 rotate_left
 ·simp only [Act.put, List.setIfInBounds_toArray, List.set_cons_zero, List.set_cons_succ, i64_w, i32_w]
  rfl
 refine pure_ (i := 8) (N := (some 14)) (v := ?_) (a' := ?_) knceA115 rfl rfl (any_of HT_.out (by kernel_rfl)) (fun _ _ _ h => h) (Or.inl ⟨by rfl, ?_⟩) ?_ ?_
 rotate_left
 ·intro w'
  go_simp
  with_reducible rfl
 rotate_left
 ·simp only [Act.put, List.setIfInBounds_toArray, List.set_cons_zero, List.set_cons_succ, i64_w, i32_w]
  rfl
 refine pure_ (i := 9) (N := (some 15)) (v := ?_) (a' := ?_) knceA114 rfl rfl (any_of HT_.out (by kernel_rfl)) (fun _ _ _ h => h) (Or.inl ⟨by rfl, ?_⟩) ?_ ?_
 rotate_left
 ·intro w'
  go_simp
  with_reducible rfl
 rotate_left
 ·simp only [Act.put, List.setIfInBounds_toArray, List.set_cons_zero, List.set_cons_succ, i64_w, i32_w]
  rfl
 refine pure_ (i := 10) (N := (some 16)) (v := ?_) (a' := ?_) knceA113 rfl rfl (any_of HT_.out (by kernel_rfl)) (fun _ _ _ h => h) (Or.inl ⟨by rfl, ?_⟩) ?_ ?_
 rotate_left
 ·intro w'
  go_simp
  with_reducible rfl
 rotate_left
 ·simp only [Act.put, List.setIfInBounds_toArray, List.set_cons_zero, List.set_cons_succ, i64_w, i32_w]
  rfl
 refine take_ (i := 11) (N := (some 17)) (v := ?_) (a' := ?_) knceA112 rfl rfl (take_ofW HT_.out HW_.out (by kernel_rfl)) (fun _ _ _ h => h) (Or.inl ⟨by rfl, ?_⟩) hHeld ?_ ?_
 rotate_left
 ·rintro w' ⟨s0, s1, s2⟩
  go_simp
  with_reducible rfl
 rotate_left
 ·simp only [Act.put, List.setIfInBounds_toArray, List.set_cons_zero, List.set_cons_succ, i64_w, i32_w]
  rfl
 refine pure_ (i := 12) (N := (some 18)) (v := ?_) (a' := ?_) knceA111 rfl rfl (any_of HT_.out (by kernel_rfl)) (fun _ _ _ h => h) (Or.inl ⟨by rfl, ?_⟩) ?_ ?_
 rotate_left
 ·intro w'
  go_simp
  with_reducible rfl
 rotate_left
 ·simp only [Act.put, List.setIfInBounds_toArray, List.set_cons_zero, List.set_cons_succ, i64_w, i32_w]
  rfl
 refine pure_ (i := 13) (N := (some 19)) (v := ?_) (a' := ?_) knceA110 rfl rfl (any_of HT_.out (by kernel_rfl)) (fun _ _ _ h => h) (Or.inl ⟨by rfl, ?_⟩) ?_ ?_
 rotate_left
 ·intro w'
  go_simp
  with_reducible rfl
 rotate_left
 ·simp only [Act.put, List.setIfInBounds_toArray, List.set_cons_zero, List.set_cons_succ, i64_w, i32_w]
  rfl
 refine pure_ (i := 14) (N := (some 20)) (v := ?_) (a' := ?_) knceA109 rfl rfl (any_of HT_.out (by kernel_rfl)) (fun _ _ _ h => h) (Or.inl ⟨by rfl, ?_⟩) ?_ ?_
 rotate_left
 ·intro w'
  go_simp
  with_reducible rfl
 rotate_left
 ·simp only [Act.put, List.setIfInBounds_toArray, List.set_cons_zero, List.set_cons_succ, i64_w, i32_w]
  rfl
 refine pure_ (i := 15) (N := (some 21)) (v := ?_) (a' := ?_) knceA108 rfl rfl (any_of HT_.out (by kernel_rfl)) (fun _ _ _ h => h) (Or.inl ⟨by rfl, ?_⟩) ?_ ?_
 rotate_left
 ·intro w'
  go_simp
  with_reducible rfl
 rotate_left
 ·simp only [Act.put, List.setIfInBounds_toArray, List.set_cons_zero, List.set_cons_succ, i64_w, i32_w]
  rfl
 refine pure_ (i := 16) (N := (some 22)) (v := ?_) (a' := ?_) knceA107 rfl rfl (any_of HT_.out (by kernel_rfl)) (fun _ _ _ h => h) (Or.inl ⟨by rfl, ?_⟩) ?_ ?_
 rotate_left
 ·intro w'
  go_simp
  with_reducible rfl
 rotate_left
 ·simp only [Act.put, List.setIfInBounds_toArray, List.set_cons_zero, List.set_cons_succ, i64_w, i32_w]
  rfl
 refine pure_ (i := 17) (N := (some 23)) (v := ?_) (a' := ?_) knceA106 rfl rfl (any_of HT_.out (by kernel_rfl)) (fun _ _ _ h => h) (Or.inl ⟨by rfl, ?_⟩) ?_ ?_
 rotate_left
 ·intro w'
  go_simp
  with_reducible rfl
 rotate_left
 ·simp only [Act.put, List.setIfInBounds_toArray, List.set_cons_zero, List.set_cons_succ, i64_w, i32_w]
  rfl
 refine pure_ (i := 18) (N := (some 24)) (v := ?_) (a' := ?_) knceA105 rfl rfl (any_of HT_.out (by kernel_rfl)) (fun _ _ _ h => h) (Or.inl ⟨by rfl, ?_⟩) ?_ ?_
 rotate_left
 ·intro w'
  go_simp
  with_reducible rfl
 rotate_left
 ·simp only [Act.put, List.setIfInBounds_toArray, List.set_cons_zero, List.set_cons_succ, i64_w, i32_w]
  rfl
 refine take_ (i := 19) (N := (some 25)) (v := ?_) (a' := ?_) knceA104 rfl rfl (take_ofW HT_.out HW_.out (by kernel_rfl)) (fun _ _ _ h => h) (Or.inl ⟨by rfl, ?_⟩) hHeld ?_ ?_
 rotate_left
 ·rintro w' ⟨s0, s1, s2⟩
  go_simp
  with_reducible rfl
 rotate_left
 ·simp only [Act.put, List.setIfInBounds_toArray, List.set_cons_zero, List.set_cons_succ, i64_w, i32_w]
  rfl
 refine pure_ (i := 20) (N := (some 26)) (v := ?_) (a' := ?_) knceA103 rfl rfl (any_of HT_.out (by kernel_rfl)) (fun _ _ _ h => h) (Or.inl ⟨by rfl, ?_⟩) ?_ ?_
 rotate_left
 ·intro w'
  go_simp
  with_reducible rfl
 rotate_left
 ·simp only [Act.put, List.setIfInBounds_toArray, List.set_cons_zero, List.set_cons_succ, i64_w, i32_w]
  rfl
 refine one_ (i := 21) (N := (some 27)) knceA102 rfl rfl (one_of HT_.out (by kernel_rfl)) (by decide) (fun K hK => ?_)
 refine value_ (w1 := w.alloc (.cells #[.int .i64 (s.a k).id, .int .i64 r, .int .i64 (s.a k).ak] 72)) (v := .slice (some ⟨w.heap.size, 0, none⟩) 1 1) (by rfl) rfl ?_ ?_
 ·go_simp
 have b : Below w.heap.size w (w.alloc (.cells #[.int .i64 (s.a k).id, .int .i64 r, .int .i64 (s.a k).ak] 72)) := below_alloc (Below.refl _ w) _
 have HN := hd (blk_new w (.cells #[.int .i64 (s.a k).id, .int .i64 r, .int .i64 (s.a k).ak] 72))
 replace HL := hd (HL.out.below b)
 replace HB : Hd (Below base w0 (w.alloc (.cells #[.int .i64 (s.a k).id, .int .i64 r, .int .i64 (s.a k).ak] 72))) := hd (below_then HB.out hbs b)
 have hbs1 : base ≤ (w.alloc (.cells #[.int .i64 (s.a k).id, .int .i64 r, .int .i64 (s.a k).ak] 72)).heap.size := Nat.le_trans hbs b.size
 refine hK.out _ _ ⟨(blk_cell HL.out.hg 17).trans HL.out.cells.ct, (blk_cell HL.out.hg _).trans (HL.out.cells.ca k hk).1, (blk_cell HL.out.hg _).trans (HL.out.cells.ca k hk).2.2.1⟩ (fun hHeld => ?_)
 clear hK K b hHeld
 generalize w.heap.size = gn at HN ⊢
 generalize w.alloc _ = w1 at HL HB HN hbs1 ⊢
 refine norm_ (a' := ?_) ?_ ?_
 rotate_left
 ·show Act.put _ (some 27) _ = _
  simp only [Act.put, List.setIfInBounds_toArray, List.set_cons_zero, List.set_cons_succ, i64_w, i32_w]
  rfl
 refine last_ (i := 22) (N := (some 28)) knceA101 rfl rfl (one_of HT_.out (by kernel_rfl)) (by decide) (fun K hK => ?_)
 obtain ⟨v2, w2, hr, hv2, Tt⟩ := HL.out.ot.append (sl := 63) Try.underlying63 info72 hbs1 ((s.a k).id, r, (s.a k).ak) ⟨gn, 0, none⟩ (fun j u hj => by
  rw [Addr.add_lit, Nat.zero_add, blk_cell HN.out j, ← Array.getElem?_toList]
  exact hj) hlen 63
 refine value_ (w1 := w2) (v := v2) (by rfl) rfl ?_ ?_
 ·unfold execOp
  simp [Deferred.ofValue, invoke, resolve, Act.eval, builtin, hr]
 have HL2 := hd (HL.out.put_t Tt hv2)
 have HB2 : Hd (Below base w0 w2) := hd (HB.out.trans Tt.below)
 have hg2 := hd (Tt.keep _ _ _ HL.out.hg (by decide))
 refine hK.out _ _ ?_
 clear hK K hr
 refine norm_ (a' := ?_) ?_ ?_
 rotate_left
 ·show Act.put _ (some 28) _ = _
  simp only [Act.put, List.setIfInBounds_toArray, List.set_cons_zero, List.set_cons_succ, i64_w, i32_w]
  rfl
 refine pure_ (i := 23) (N := (some 29)) (v := ?_) (a' := ?_) knceA100 rfl rfl (any_of HT_.out (by kernel_rfl)) (fun _ _ _ h => h) (Or.inl ⟨by rfl, ?_⟩) ?_ ?_
 rotate_left
 ·intro w'
  go_simp
  with_reducible rfl
 rotate_left
 ·simp only [Act.put, List.setIfInBounds_toArray, List.set_cons_zero, List.set_cons_succ, i64_w, i32_w]
  rfl
 refine pure_ (i := 24) (N := (some 30)) (v := ?_) (a' := ?_) knceA99 rfl rfl (any_of HT_.out (by kernel_rfl)) (fun _ _ _ h => h) (Or.inl ⟨by rfl, ?_⟩) ?_ ?_
 rotate_left
 ·intro w'
  go_simp
  with_reducible rfl
 rotate_left
 ·simp only [Act.put, List.setIfInBounds_toArray, List.set_cons_zero, List.set_cons_succ, i64_w, i32_w]
  rfl
 refine last_ (i := 25) (N := none) knceA98 rfl rfl (one_of HT_.out (by kernel_rfl)) (by decide) (fun K hK => ?_)
 have cf := (blk_cell hg2.out 17).trans HL.out.cells.ct
 have ff := blk_frozen hg2.out 17
 refine skip_ (w1 := w2.setCell ⟨g, 17, none⟩ v2) (by rfl) rfl ?_ ?_
 ·obtain ⟨A2, c2, hv, _⟩ := hv2.slice
  subst hv
  go_simp
 refine hK.out _ _ ?_
 clear hK K
 refine done_ (done_of HT_.out (by kernel_rfl)) ?_
 clear HT_ HW_
 refine bodyPost_end (results_none rfl _ _ _) rfl ?_
 exact ⟨rfl, ⟨_, _, _, _, _, _, _, HL2.out⟩, HB2.out.trans (turn_set hg2.out HL.out.gb _).below⟩
end Go.Proofs.Ytafnjlgdjhegaaa.Pr
end
section
namespace Go.Proofs.Ytafnjlgdjhegaaa.Pr
open Go.RowKit Go.Proofs.YtafnjlgdjhegaaaW.PrintWords Go.Proofs.YtafnjlgdjhegaaaW.PrintLast Go.Proofs.YtafnjlgdjhegaaaW.PrintMore Go.Proofs.YtafnjlgdjhegaaaG
set_option linter.unusedVariables false
set_option linter.unusedSimpArgs false
def arS.T1 : Bool × List (List Nat × List Nat) := (true, [([], []), ([0], [0]), ([1], [1]), ([2], [2]), ([], []), ([4], [4]), ([], []), ([6], [6]), ([], []), ([8], [8]), ([3, 5, 7, 9], [3, 5, 7, 9]), ([10], [10]), ([11], [11]), ([11], [11]), ([11], [11]), ([11], [11]), ([12, 10, 0, 1, 2, 3, 4, 5, 6, 7, 8, 9, 10, 11, 12], [12]), ([13, 16, 0, 1, 2, 3, 4, 5, 6, 7, 8, 9, 10, 11, 12, 13, 16], [13]), ([14, 17, 0, 1, 2, 3, 4, 5, 6, 7, 8, 9, 10, 11, 12, 13, 14, 16, 17], [14]), ([15, 18, 0, 1, 2, 3, 4, 5, 6, 7, 8, 9, 10, 11, 12, 13, 14, 15, 16, 17, 18], [15])])
def arS.B1 : List Nat := [0, 1, 3, 7, 0, 16, 0, 64, 0, 256, 1023, 2047, 4095, 4095, 4095, 4095, 8191, 81919, 229375, 524287]
theorem arS.tab1 : rtab .any (opsOf Try.f32 1) = arS.T1 := by kernel_rfl
theorem arS.bits1 : waitsOk arS.T1.2 arS.B1 = true := by kernel_rfl
def arS.T9 : Bool × List (List Nat × List Nat) := (true, [([], []), ([], []), ([0], [0]), ([2], [2]), ([3, 1], [1, 3]), ([4], [4]), ([], []), ([6], [6]), ([5, 7], [5, 7]), ([8], [8]), ([9], [9])])
def arS.B9 : List Nat := [0, 0, 1, 5, 15, 31, 0, 64, 255, 511, 1023]
theorem arS.tab9 : rtab .any (opsOf Try.f32 9) = arS.T9 := by kernel_rfl
theorem arS.bits9 : waitsOk arS.T9.2 arS.B9 = true := by kernel_rfl
def arS.T12 : Bool × List (List Nat × List Nat) := (true, [([], []), ([], []), ([0], [0]), ([2], [2]), ([3, 1], [1, 3]), ([4], [4]), ([], []), ([6], [6]), ([], []), ([8], [8]), ([9], [9]), ([10], [10]), ([5, 7, 0, 1, 2, 3, 4, 5, 6, 7, 8, 9, 10, 11], [5, 7]), ([12, 11, 0, 1, 2, 3, 4, 5, 6, 7, 8, 9, 10, 11], [11, 12])])
def arS.B12 : List Nat := [0, 0, 1, 5, 15, 31, 0, 64, 0, 256, 768, 1792, 4095, 8191]
theorem arS.tab12 : rtab .any (opsOf Try.f32 12) = arS.T12 := by kernel_rfl
theorem arS.bits12 : waitsOk arS.T12.2 arS.B12 = true := by kernel_rfl
def arS.T13 : Bool × List (List Nat × List Nat) := (true, [([], []), ([0], [0]), ([1], [1]), ([2], [2]), ([], []), ([4], [4]), ([], []), ([6], [6]), ([], []), ([8], [8]), ([9], [9]), ([10], [10]), ([11], [11]), ([12], [12]), ([], []), ([14], [14]), ([15], [15]), ([16], [16]), ([17], [17]), ([13, 18], [13, 18]), ([3, 5, 7, 19], [3, 5, 7, 19]), ([20], [20]), ([21], [21]), ([21], [21]), ([22, 20, 0, 1, 2, 3, 4, 5, 6, 7, 8, 9, 10, 11, 12, 13, 14, 15, 16, 17, 18, 19, 20, 21, 22], [22]), ([23, 24, 0, 1, 2, 3, 4, 5, 6, 7, 8, 9, 10, 11, 12, 13, 14, 15, 16, 17, 18, 19, 20, 21, 22, 23, 24], [23])])
def arS.B13 : List Nat := [0, 1, 3, 7, 0, 16, 0, 64, 0, 256, 768, 1792, 3840, 7936, 0, 16384, 49152, 114688, 245760, 524032, 1048575, 2097151, 4194303, 4194303, 8388607, 33554431]
theorem arS.tab13 : rtab .any (opsOf Try.f32 13) = arS.T13 := by kernel_rfl
theorem arS.bits13 : waitsOk arS.T13.2 arS.B13 = true := by kernel_rfl
def arS.T17 : Bool × List (List Nat × List Nat) := (true, [([], []), ([], []), ([1], [1]), ([2], [2]), ([3], [3]), ([], []), ([5], [5]), ([], []), ([7], [7]), ([], []), ([9], [9]), ([10], [10]), ([11], [11]), ([6, 8, 12], [6, 8, 12]), ([13], [13]), ([4, 14], [4, 14]), ([0, 0, 1, 2, 3, 4, 5, 6, 7, 8, 9, 10, 11, 12, 13, 14, 15], [0]), ([16, 0, 1, 2, 3, 4, 5, 6, 7, 8, 9, 10, 11, 12, 13, 14, 15], [16]), ([17, 15, 15, 0, 1, 2, 3, 4, 5, 6, 7, 8, 9, 10, 11, 12, 13, 14, 15], [15, 17])])
def arS.B17 : List Nat := [0, 0, 2, 6, 14, 0, 32, 0, 128, 0, 512, 1536, 3584, 8160, 16352, 32766, 65535, 131071, 262143]
theorem arS.tab17 : rtab .any (opsOf Try.f32 17) = arS.T17 := by kernel_rfl
theorem arS.bits17 : waitsOk arS.T17.2 arS.B17 = true := by kernel_rfl
def arS.T19 : Bool × List (List Nat × List Nat) := (true, [([], []), ([0], [0]), ([1], [1]), ([2], [2]), ([3], [3]), ([], []), ([5], [5]), ([6], [6]), ([7], [7]), ([4, 8], [4, 8]), ([9, 0, 1, 2, 3, 4, 5, 6, 7, 8, 9], [9])])
def arS.B19 : List Nat := [0, 1, 3, 7, 15, 0, 32, 96, 224, 511, 1023]
theorem arS.tab19 : rtab .any (opsOf Try.f32 19) = arS.T19 := by kernel_rfl
theorem arS.bits19 : waitsOk arS.T19.2 arS.B19 = true := by kernel_rfl
def arS.T20 : Bool × List (List Nat × List Nat) := (true, [([], []), ([], []), ([], []), ([1], [1]), ([3], [3]), ([4, 2], [2, 4]), ([5], [5]), ([], []), ([7], [7]), ([6, 8], [6, 8]), ([9], [9]), ([0, 10], [0, 10])])
def arS.B20 : List Nat := [0, 0, 0, 2, 10, 30, 62, 0, 128, 510, 1022, 2047]
theorem arS.tab20 : rtab .any (opsOf Try.f32 20) = arS.T20 := by kernel_rfl
theorem arS.bits20 : waitsOk arS.T20.2 arS.B20 = true := by kernel_rfl
def arS.T22 : Bool × List (List Nat × List Nat) := (true, [([], []), ([], []), ([1], [1]), ([2], [2]), ([3], [3]), ([], []), ([5], [5]), ([], []), ([7], [7]), ([], []), ([6, 8, 9], [6, 8, 9]), ([10], [10]), ([4, 11], [4, 11]), ([0, 0, 1, 2, 3, 4, 5, 6, 7, 8, 9, 10, 11, 12], [0]), ([13, 0, 1, 2, 3, 4, 5, 6, 7, 8, 9, 10, 11, 12], [13]), ([14, 12, 12, 0, 1, 2, 3, 4, 5, 6, 7, 8, 9, 10, 11, 12], [12, 14])])
def arS.B22 : List Nat := [0, 0, 2, 6, 14, 0, 32, 0, 128, 0, 992, 2016, 4094, 8191, 16383, 32767]
theorem arS.tab22 : rtab .any (opsOf Try.f32 22) = arS.T22 := by kernel_rfl
theorem arS.bits22 : waitsOk arS.T22.2 arS.B22 = true := by kernel_rfl
def arS.T24 : Bool × List (List Nat × List Nat) := (true, [([], []), ([], []), ([0], [0]), ([2], [2]), ([3, 1], [1, 3]), ([4], [4]), ([], []), ([6], [6]), ([5, 7], [5, 7]), ([8], [8]), ([9], [9]), ([10, 0, 1, 2, 3, 4, 5, 6, 7, 8, 9, 10], [10])])
def arS.B24 : List Nat := [0, 0, 1, 5, 15, 31, 0, 64, 255, 511, 1023, 2047]
theorem arS.tab24 : rtab .any (opsOf Try.f32 24) = arS.T24 := by kernel_rfl
theorem arS.bits24 : waitsOk arS.T24.2 arS.B24 = true := by kernel_rfl
theorem holdOarS {p} (h : Hd p) : p := h.out
set_option maxRecDepth 100000 in
set_option maxHeartbeats 8000000 in
theorem arrive_stale (base g : Nat) (w0 w : World) (cs : Array Value) (s : Ws) (vl vt vb : Value) (vw : Nat → Value) (bd bf : Nat → Nat) (k : Nat) (r : Nat) (ak : Int) (l1 : List S44) (hk : k < 4) (h : Lay base g w cs s vl vt vb vw bd bf) (hB : Below base w0 w)
  (hr1 : 1 ≤ r) (hr2 : r ≤ 200) (hlook : session_Look.f s.l ((k : Int) + 1) (r : Int) ak = some (l1, 3, [], 0)) (hgot : s.got k (r : Int) ≠ 0) :
  Calls Try.prog 32 #[.pointer (some ⟨g, 0, none⟩), .agg #[.int .i64 ((k : Int) + 1), .int .i64 (r : Int), .int .i64 ak]] w fun e w' => e = .returned (.bool true) ∧ LayM base g w' { s with l := l1 } ∧ Below base w0 w' := by
 have HL := hd h
 have HB := hd hB
 have HLK := hd hlook
 have hk4 : (k : Int) < 4 := by omega
 have hr250 : (r : Int) < 250 := by omega
 have hr0 : (0 : Int) ≤ (r : Int) := by omega
 have hu62 := Try.underlying62
 have hu65 := Try.underlying65
 have hu67 := Try.underlying67
 have hu72 := Try.underlying72
 have hu75 := Try.underlying75
 obtain ⟨A, c, hvl, hcc, hC⟩ := h.ol.reads
 have HC := hd hC
 have hgot1 : (s.got k (r : Int) != 0) = true := by simpa using hgot
 clear h hB hC hlook
 go_enter Try.func32, Try.ntmps32
 go_wp2_with (((with_reducible refine gate_dst (N := 3) rfl ?_); refine box_event ?hg (N := 3) ?hd (cs := #[.int .i64 ((k : Int) + 1), .int .i64 (r : Int), .int .i64 ak]) (t := 72) ?hr ?_; (case hd => rfl); (case hg => rfl); (case hr => first | (go_simp; done) | (go_simp; rfl)); intro gx hg w1 hbox hb; have HX := hd hbox; replace HC := hd (Kd.C_below HC.out hb); replace HB : Hd (Below base w0 w1) := hd (below_then HB.out HL.out.bs hb); replace HL := hd (HL.out.below hb); clear hg hbox hb; refine holdOarS ?_))
 refine ⟨?_⟩
 go_wp2_with fail
 refine start_ (n := 20) (S := fun w' => w'.heap[g]? = some (.cells cs 67 (0, 0)) ∧ w'.heap[gx]? = some (.cells #[.int .i64 ((k : Int) + 1), .int .i64 (r : Int), .int .i64 ak] 72 (0, 0))) (ds := []) knceA97 (by kernel_rfl) rfl rfl ⟨HL.out.hg, HX.out⟩ (fun hHeld => ?_)
 refine with_tabW arS.tab1 arS.bits1 (fun HT_ HW_ => ?_)
 have HL0 := HL
 have HL : Hd (Lay base g w1.drew _ _ _ _ _ _ _ _) := hd (HL0.out.below (below_drew1 (Below.refl _ _)))
 have HB0 := HB
 have HB : Hd (Below base w0 w1.drew) := hd (below_drew1 HB0.out)
 have HX0 := HX
 have HX : Hd (w1.drew.heap[gx]? = _) := hd HX0.out
 have HC0 := HC
 have HC : Hd (Kd.C k44 w1.drew A s.l.length s.l) := hd (Kd.C_below HC0.out (below_drew1 (Below.refl _ _)))
 clear HC0 HL0 HB0 HX0
 generalize w1.drew = w2 at HL HB HX HC hHeld ⊢
 refine pure_ (i := 0) (N := (some 14)) (v := ?_) (a' := ?_) knceA96 rfl rfl (any_of HT_.out (by kernel_rfl)) (fun _ _ _ h => h) (Or.inl ⟨by rfl, ?_⟩) ?_ ?_
 rotate_left
 ·intro w'
  go_simp
  with_reducible rfl
 rotate_left
 ·simp only [Act.put, List.setIfInBounds_toArray, List.set_cons_zero, List.set_cons_succ, i64_w, i32_w]
  rfl
 refine pure_ (i := 1) (N := (some 15)) (v := ?_) (a' := ?_) knceA95 rfl rfl (any_of HT_.out (by kernel_rfl)) (fun _ _ _ h => h) (Or.inl ⟨by rfl, ?_⟩) ?_ ?_
 rotate_left
 ·intro w'
  go_simp
  with_reducible rfl
 rotate_left
 ·simp only [Act.put, List.setIfInBounds_toArray, List.set_cons_zero, List.set_cons_succ, i64_w, i32_w]
  rfl
 refine pure_ (i := 2) (N := (some 16)) (v := ?_) (a' := ?_) knceA94 rfl rfl (any_of HT_.out (by kernel_rfl)) (fun _ _ _ h => h) (Or.inl ⟨by rfl, ?_⟩) ?_ ?_
 rotate_left
 ·intro w'
  go_simp
  with_reducible rfl
 rotate_left
 ·simp only [Act.put, List.setIfInBounds_toArray, List.set_cons_zero, List.set_cons_succ, i64_w, i32_w]
  rfl
 refine take_ (i := 3) (N := (some 17)) (v := ?_) (a' := ?_) knceA93 rfl rfl (take_ofW HT_.out HW_.out (by kernel_rfl)) (fun _ _ _ h => h) (Or.inl ⟨by rfl, ?_⟩) hHeld ?_ ?_
 rotate_left
 ·rintro w' ⟨s0, s1⟩
  have d0 := (blk_cell s0 0).trans (HL.out.cells.c0.trans (congrArg some hvl))
  go_simp
  with_reducible rfl
 rotate_left
 ·simp only [Act.put, List.setIfInBounds_toArray, List.set_cons_zero, List.set_cons_succ, i64_w, i32_w]
  rfl
 refine pure_ (i := 4) (N := (some 18)) (v := ?_) (a' := ?_) knceA92 rfl rfl (any_of HT_.out (by kernel_rfl)) (fun _ _ _ h => h) (Or.inl ⟨by rfl, ?_⟩) ?_ ?_
 rotate_left
 ·intro w'
  go_simp
  with_reducible rfl
 rotate_left
 ·simp only [Act.put, List.setIfInBounds_toArray, List.set_cons_zero, List.set_cons_succ, i64_w, i32_w]
  rfl
 refine take_ (i := 5) (N := (some 19)) (v := ?_) (a' := ?_) knceA91 rfl rfl (take_ofW HT_.out HW_.out (by kernel_rfl)) (fun _ _ _ h => h) (Or.inl ⟨by rfl, ?_⟩) hHeld ?_ ?_
 rotate_left
 ·rintro w' ⟨s0, s1⟩
  have e0 := (blk_cell s1 0).trans rfl
  have e1 := (blk_cell s1 1).trans rfl
  have e2 := (blk_cell s1 2).trans rfl
  go_simp
  with_reducible rfl
 rotate_left
 ·simp only [Act.put, List.setIfInBounds_toArray, List.set_cons_zero, List.set_cons_succ, i64_w, i32_w]
  rfl
 refine pure_ (i := 6) (N := (some 20)) (v := ?_) (a' := ?_) knceA89 rfl rfl (any_of HT_.out (by kernel_rfl)) (fun _ _ _ h => h) (Or.inl ⟨by rfl, ?_⟩) ?_ ?_
 rotate_left
 ·intro w'
  go_simp
  with_reducible rfl
 rotate_left
 ·simp only [Act.put, List.setIfInBounds_toArray, List.set_cons_zero, List.set_cons_succ, i64_w, i32_w]
  rfl
 refine take_ (i := 7) (N := (some 21)) (v := ?_) (a' := ?_) knceA87 rfl rfl (take_ofW HT_.out HW_.out (by kernel_rfl)) (fun _ _ _ h => h) (Or.inl ⟨by rfl, ?_⟩) hHeld ?_ ?_
 rotate_left
 ·rintro w' ⟨s0, s1⟩
  have e0 := (blk_cell s1 0).trans rfl
  have e1 := (blk_cell s1 1).trans rfl
  have e2 := (blk_cell s1 2).trans rfl
  go_simp
  with_reducible rfl
 rotate_left
 ·simp only [Act.put, List.setIfInBounds_toArray, List.set_cons_zero, List.set_cons_succ, i64_w, i32_w]
  rfl
 refine pure_ (i := 8) (N := (some 22)) (v := ?_) (a' := ?_) knceA85 rfl rfl (any_of HT_.out (by kernel_rfl)) (fun _ _ _ h => h) (Or.inl ⟨by rfl, ?_⟩) ?_ ?_
 rotate_left
 ·intro w'
  go_simp
  with_reducible rfl
 rotate_left
 ·simp only [Act.put, List.setIfInBounds_toArray, List.set_cons_zero, List.set_cons_succ, i64_w, i32_w]
  rfl
 refine take_ (i := 9) (N := (some 23)) (v := ?_) (a' := ?_) knceA83 rfl rfl (take_ofW HT_.out HW_.out (by kernel_rfl)) (fun _ _ _ h => h) (Or.inl ⟨by rfl, ?_⟩) hHeld ?_ ?_
 rotate_left
 ·rintro w' ⟨s0, s1⟩
  have e0 := (blk_cell s1 0).trans rfl
  have e1 := (blk_cell s1 1).trans rfl
  have e2 := (blk_cell s1 2).trans rfl
  go_simp
  with_reducible rfl
 rotate_left
 ·simp only [Act.put, List.setIfInBounds_toArray, List.set_cons_zero, List.set_cons_succ, i64_w, i32_w]
  rfl
 refine one_ (i := 10) (N := (some 24)) knceA81 rfl rfl (one_of HT_.out (by kernel_rfl)) (by decide) (fun K hK => ?_)
 refine goes_ Try.func10 (by kernel_rfl) rfl #[.slice A s.l.length c, .int .i64 ((k : Int) + 1), .int .i64 (r : Int), .int .i64 ak] (by rfl) rfl rfl (by (try simp only [List.map_toArray, List.map_cons, List.map_nil]); first | done | rfl) ?_
 refine (session_Look.calls A c s.l ((k : Int) + 1) (r : Int) ak l1 3 [] 0 w2 HC.out hcc HLK.out).mono ?_
 rintro e w3 ⟨v0, v2, rfl, hR0, hR2, b⟩
 refine ⟨_, rfl, ?_⟩
 have HO1 : Hd (Own k44 44 base w3 v0 l1) := hd (Own.of hR0 HL.out.bs)
 have HREP : Hd (Own (Kd.int .u8) 5 base w3 v2 []) := hd (Own.of hR2 HL.out.bs)
 obtain ⟨A0, c0, rfl, _, _⟩ := Kd.R_reads hR0
 obtain ⟨A2, c2, rfl, _, _⟩ := Kd.R_reads hR2
 replace HB : Hd (Below base w0 w3) := hd (below_then HB.out HL.out.bs b)
 replace HL := hd (HL.out.below b)
 replace HX := hd (blk_below HX.out b)
 refine hK.out _ _ ⟨HL.out.hg, HX.out⟩ (fun hHeld => ?_)
 clear hK K b hR0 hR2 HC
 refine norm_ (a' := ?_) ?_ ?_
 rotate_left
 ·show Act.put _ (some 24) _ = _
  simp only [Act.put, List.setIfInBounds_toArray, List.set_cons_zero, List.set_cons_succ, i64_w, i32_w]
  rfl
 refine pure_ (i := 11) (N := (some 13)) (v := ?_) (a' := ?_) knceA79 rfl rfl (any_of HT_.out (by kernel_rfl)) (fun _ _ _ h => h) (Or.inl ⟨by rfl, ?_⟩) ?_ ?_
 rotate_left
 ·intro w'
  go_simp
  with_reducible rfl
 rotate_left
 ·simp only [Act.put, List.setIfInBounds_toArray, List.set_cons_zero, List.set_cons_succ, i64_w, i32_w]
  rfl
 refine pure_ (i := 12) (N := (some 25)) (v := ?_) (a' := ?_) knceA77 rfl rfl (any_of HT_.out (by kernel_rfl)) (fun _ _ _ h => h) (Or.inl ⟨by rfl, ?_⟩) ?_ ?_
 rotate_left
 ·intro w'
  go_simp
  with_reducible rfl
 rotate_left
 ·simp only [Act.put, List.setIfInBounds_toArray, List.set_cons_zero, List.set_cons_succ, i64_w, i32_w]
  rfl
 refine pure_ (i := 13) (N := (some 26)) (v := ?_) (a' := ?_) knceA75 rfl rfl (any_of HT_.out (by kernel_rfl)) (fun _ _ _ h => h) (Or.inl ⟨by rfl, ?_⟩) ?_ ?_
 rotate_left
 ·intro w'
  go_simp
  with_reducible rfl
 rotate_left
 ·simp only [Act.put, List.setIfInBounds_toArray, List.set_cons_zero, List.set_cons_succ, i64_w, i32_w]
  rfl
 refine pure_ (i := 14) (N := (some 27)) (v := ?_) (a' := ?_) knceA73 rfl rfl (any_of HT_.out (by kernel_rfl)) (fun _ _ _ h => h) (Or.inl ⟨by rfl, ?_⟩) ?_ ?_
 rotate_left
 ·intro w'
  go_simp
  with_reducible rfl
 rotate_left
 ·simp only [Act.put, List.setIfInBounds_toArray, List.set_cons_zero, List.set_cons_succ, i64_w, i32_w]
  rfl
 refine pure_ (i := 15) (N := (some 28)) (v := ?_) (a' := ?_) knceA71 rfl rfl (any_of HT_.out (by kernel_rfl)) (fun _ _ _ h => h) (Or.inl ⟨by rfl, ?_⟩) ?_ ?_
 rotate_left
 ·intro w'
  go_simp
  with_reducible rfl
 rotate_left
 ·simp only [Act.put, List.setIfInBounds_toArray, List.set_cons_zero, List.set_cons_succ, i64_w, i32_w]
  rfl
 refine pure_ (i := 16) (N := (some 5)) (v := ?_) (a' := ?_) knceA69 rfl rfl (any_of HT_.out (by kernel_rfl)) (fun _ _ _ h => h) (Or.inl ⟨by rfl, ?_⟩) ?_ ?_
 rotate_left
 ·intro w'
  go_simp
  with_reducible rfl
 rotate_left
 ·simp only [Act.put, List.setIfInBounds_toArray, List.set_cons_zero, List.set_cons_succ, i64_w, i32_w]
  rfl
 refine pure_ (i := 17) (N := (some 6)) (v := ?_) (a' := ?_) knceA67 rfl rfl (any_of HT_.out (by kernel_rfl)) (fun _ _ _ h => h) (Or.inl ⟨by rfl, ?_⟩) ?_ ?_
 rotate_left
 ·intro w'
  go_simp
  with_reducible rfl
 rotate_left
 ·simp only [Act.put, List.setIfInBounds_toArray, List.set_cons_zero, List.set_cons_succ, i64_w, i32_w]
  rfl
 refine pure_ (i := 18) (N := (some 7)) (v := ?_) (a' := ?_) knceA65 rfl rfl (any_of HT_.out (by kernel_rfl)) (fun _ _ _ h => h) (Or.inl ⟨by rfl, ?_⟩) ?_ ?_
 rotate_left
 ·intro w'
  go_simp
  with_reducible rfl
 rotate_left
 ·simp only [Act.put, List.setIfInBounds_toArray, List.set_cons_zero, List.set_cons_succ, i64_w, i32_w]
  rfl
 refine pure_ (i := 19) (N := (some 8)) (v := ?_) (a' := ?_) knceA63 rfl rfl (any_of HT_.out (by kernel_rfl)) (fun _ _ _ h => h) (Or.inl ⟨by rfl, ?_⟩) ?_ ?_
 rotate_left
 ·intro w'
  go_simp
  with_reducible rfl
 rotate_left
 ·simp only [Act.put, List.setIfInBounds_toArray, List.set_cons_zero, List.set_cons_succ, i64_w, i32_w]
  rfl
 refine done_ (done_of HT_.out (by kernel_rfl)) ?_
 clear HT_ HW_
 have e0 := (blk_cell HX.out 0).trans rfl
 go_wp2_with ((with_reducible refine gate_store (t := 22) (p := 37) rfl ?_); refine wpList_store1 rfl 22 (.tmp 37) (.tmp 35) rfl g 0 (.slice A0 l1.length c0) rfl rfl ?hrun ?_; (case hrun => (have c_ := (blk_cell HL.out.hg 0).trans HL.out.cells.c0; have f_ := blk_frozen HL.out.hg 0; go_simp; first | done | rfl)); refine holdOarS ?_)
 refine ⟨?_⟩
 clear e0
 have T4 := turn_set (j := 0) HL.out.hg HL.out.gb (.slice A0 l1.length c0)
 have HL4 := hd (HL.out.put_l HO1.out)
 replace HB := hd (HB.out.trans T4.below)
 replace HX := hd (T4.keep _ _ _ HX.out (by decide))
 replace HREP := hd (HREP.out.turn T4 (by decide))
 clear HL T4 HO1 hcc hvl
 have HL := HL4
 clear HL4
 generalize World.setCell _ _ _ = w4 at HL HB HX HREP ⊢
 clear HREP
 go_wp2_with fail
 refine start_ (n := 12) (S := fun w' => w'.heap[g]? = some (.cells (cs.setIfInBounds 0 (.slice A0 l1.length c0)) 67 (0, 0)) ∧ w'.heap[gx]? = some (.cells #[.int .i64 ((k : Int) + 1), .int .i64 (r : Int), .int .i64 ak] 72 (0, 0)) ∧ w'.heap[bf k]? = some (.cells (row250 (s.got k)) 3 (0, 0))) (ds := []) knceA24 (by kernel_rfl) rfl rfl ⟨HL.out.hg, HX.out, (HL.out.og k hk).2⟩ (fun hHeld => ?_)
 refine with_tabW arS.tab24 arS.bits24 (fun HT_ HW_ => ?_)
 have HL0 := HL
 have HL : Hd (Lay base g w4.drew _ _ _ _ _ _ _ _) := hd (HL0.out.below (below_drew1 (Below.refl _ _)))
 have HB0 := HB
 have HB : Hd (Below base w0 w4.drew) := hd (below_drew1 HB0.out)
 have HX0 := HX
 have HX : Hd (w4.drew.heap[gx]? = _) := hd HX0.out
 clear HL0 HB0 HX0
 generalize w4.drew = w5 at HL HB HX hHeld ⊢
 refine pure_ (i := 0) (N := (some 161)) (v := ?_) (a' := ?_) knceA23 rfl rfl (any_of HT_.out (by kernel_rfl)) (fun _ _ _ h => h) (Or.inl ⟨by rfl, ?_⟩) ?_ ?_
 rotate_left
 ·intro w'
  go_simp
  with_reducible rfl
 rotate_left
 ·simp only [Act.put, List.setIfInBounds_toArray, List.set_cons_zero, List.set_cons_succ, i64_w, i32_w]
  rfl
 refine pure_ (i := 1) (N := (some 162)) (v := ?_) (a' := ?_) knceA22 rfl rfl (any_of HT_.out (by kernel_rfl)) (fun _ _ _ h => h) (Or.inl ⟨by rfl, ?_⟩) ?_ ?_
 rotate_left
 ·intro w'
  go_simp
  with_reducible rfl
 rotate_left
 ·simp only [Act.put, List.setIfInBounds_toArray, List.set_cons_zero, List.set_cons_succ, i64_w, i32_w]
  rfl
 refine pure_ (i := 2) (N := (some 163)) (v := ?_) (a' := ?_) knceA21 rfl rfl (any_of HT_.out (by kernel_rfl)) (fun _ _ _ h => h) (Or.inl ⟨by rfl, ?_⟩) ?_ ?_
 rotate_left
 ·intro w'
  go_simp
  with_reducible rfl
 rotate_left
 ·simp only [Act.put, List.setIfInBounds_toArray, List.set_cons_zero, List.set_cons_succ, i64_w, i32_w]
  rfl
 refine pure_ (i := 3) (N := (some 164)) (v := ?_) (a' := ?_) knceA20 rfl rfl (any_of HT_.out (by kernel_rfl)) (fun _ _ _ h => h) (Or.inl ⟨by rfl, ?_⟩) ?_ ?_
 rotate_left
 ·intro w'
  go_simp
  with_reducible rfl
 rotate_left
 ·simp only [Act.put, List.setIfInBounds_toArray, List.set_cons_zero, List.set_cons_succ, i64_w, i32_w]
  rfl
 refine pure_ (i := 4) (N := (some 165)) (v := ?_) (a' := ?_) knceA19 rfl rfl (any_of HT_.out (by kernel_rfl)) (fun _ _ _ h => h) (Or.inl ⟨by rfl, ?_⟩) ?_ ?_
 rotate_left
 ·intro w'
  go_simp
  with_reducible rfl
 rotate_left
 ·simp only [Act.put, List.setIfInBounds_toArray, List.set_cons_zero, List.set_cons_succ, i64_w, i32_w]
  rfl
 refine take_ (i := 5) (N := (some 166)) (v := ?_) (a' := ?_) knceA18 rfl rfl (take_ofW HT_.out HW_.out (by kernel_rfl)) (fun _ _ _ h => h) (Or.inl ⟨by rfl, ?_⟩) hHeld ?_ ?_
 rotate_left
 ·rintro w' ⟨s0, s1, s2⟩
  have f0 := (blk_cell s0 (23 + k)).trans (HL.out.cells.cf k hk)
  unfold arrC at f0
  go_simp
  with_reducible rfl
 rotate_left
 ·simp only [Act.put, List.setIfInBounds_toArray, List.set_cons_zero, List.set_cons_succ, i64_w, i32_w]
  rfl
 refine pure_ (i := 6) (N := (some 167)) (v := ?_) (a' := ?_) knceA16 rfl rfl (any_of HT_.out (by kernel_rfl)) (fun _ _ _ h => h) (Or.inl ⟨by rfl, ?_⟩) ?_ ?_
 rotate_left
 ·intro w'
  go_simp
  with_reducible rfl
 rotate_left
 ·simp only [Act.put, List.setIfInBounds_toArray, List.set_cons_zero, List.set_cons_succ, i64_w, i32_w]
  rfl
 refine take_ (i := 7) (N := (some 168)) (v := ?_) (a' := ?_) knceA14 rfl rfl (take_ofW HT_.out HW_.out (by kernel_rfl)) (fun _ _ _ h => h) (Or.inl ⟨by rfl, ?_⟩) hHeld ?_ ?_
 rotate_left
 ·rintro w' ⟨s0, s1, s2⟩
  have e0 := (blk_cell s1 0).trans rfl
  have e1 := (blk_cell s1 1).trans rfl
  have e2 := (blk_cell s1 2).trans rfl
  go_simp
  with_reducible rfl
 rotate_left
 ·simp only [Act.put, List.setIfInBounds_toArray, List.set_cons_zero, List.set_cons_succ, i64_w, i32_w]
  rfl
 refine pure_ (i := 8) (N := (some 169)) (v := ?_) (a' := ?_) knceA12 rfl rfl (any_of HT_.out (by kernel_rfl)) (fun _ _ _ h => h) (Or.inl ⟨by rfl, ?_⟩) ?_ ?_
 rotate_left
 ·intro w'
  go_simp
  with_reducible rfl
 rotate_left
 ·simp only [Act.put, List.setIfInBounds_toArray, List.set_cons_zero, List.set_cons_succ, i64_w, i32_w]
  rfl
 refine take_ (i := 9) (N := (some 170)) (v := ?_) (a' := ?_) knceA10 rfl rfl (take_ofW HT_.out HW_.out (by kernel_rfl)) (fun _ _ _ h => h) (Or.inl ⟨by rfl, ?_⟩) hHeld ?_ ?_
 rotate_left
 ·rintro w' ⟨s0, s1, s2⟩
  have f1 := (blk_cell s2 r).trans (row250_at _ r (by omega))
  go_simp
  with_reducible rfl
 rotate_left
 ·simp only [Act.put, List.setIfInBounds_toArray, List.set_cons_zero, List.set_cons_succ, i64_w, i32_w]
  rfl
 refine pure_ (i := 10) (N := (some 171)) (v := ?_) (a' := ?_) knceA8 rfl rfl (any_of HT_.out (by kernel_rfl)) (fun _ _ _ h => h) (Or.inl ⟨by rfl, ?_⟩) ?_ ?_
 rotate_left
 ·intro w'
  go_simp
  with_reducible rfl
 rotate_left
 ·simp only [Act.put, List.setIfInBounds_toArray, List.set_cons_zero, List.set_cons_succ, i64_w, i32_w]
  rfl
 refine pure_ (i := 11) (N := (some 4)) (v := ?_) (a' := ?_) knceA6 rfl rfl (any_of HT_.out (by kernel_rfl)) (fun _ _ _ h => h) (Or.inl ⟨by rfl, ?_⟩) ?_ ?_
 rotate_left
 ·intro w'
  go_simp
  with_reducible rfl
 rotate_left
 ·simp only [Act.put, List.setIfInBounds_toArray, List.set_cons_zero, List.set_cons_succ, i64_w, i32_w]
  rfl
 refine done_ (done_of HT_.out (by kernel_rfl)) ?_
 clear HT_ HW_
 go_wp2
 go_ret
 exact ⟨rfl, ⟨_, _, _, _, _, _, _, HL.out⟩, HB.out⟩
end Go.Proofs.Ytafnjlgdjhegaaa.Pr
end
section
namespace Go.Proofs.Ytafnjlgdjhegaaa.Pr
open Go.RowKit Go.Proofs.YtafnjlgdjhegaaaW.PrintWords Go.Proofs.YtafnjlgdjhegaaaW.PrintLast Go.Proofs.YtafnjlgdjhegaaaW.PrintMore Go.Proofs.YtafnjlgdjhegaaaG
set_option linter.unusedVariables false
set_option linter.unusedSimpArgs false
def arO.T1 : Bool × List (List Nat × List Nat) := (true, [([], []), ([0], [0]), ([1], [1]), ([2], [2]), ([], []), ([4], [4]), ([], []), ([6], [6]), ([], []), ([8], [8]), ([3, 5, 7, 9], [3, 5, 7, 9]), ([10], [10]), ([11], [11]), ([11], [11]), ([11], [11]), ([11], [11]), ([12, 10, 0, 1, 2, 3, 4, 5, 6, 7, 8, 9, 10, 11, 12], [12]), ([13, 16, 0, 1, 2, 3, 4, 5, 6, 7, 8, 9, 10, 11, 12, 13, 16], [13]), ([14, 17, 0, 1, 2, 3, 4, 5, 6, 7, 8, 9, 10, 11, 12, 13, 14, 16, 17], [14]), ([15, 18, 0, 1, 2, 3, 4, 5, 6, 7, 8, 9, 10, 11, 12, 13, 14, 15, 16, 17, 18], [15])])
def arO.B1 : List Nat := [0, 1, 3, 7, 0, 16, 0, 64, 0, 256, 1023, 2047, 4095, 4095, 4095, 4095, 8191, 81919, 229375, 524287]
theorem arO.tab1 : rtab .any (opsOf Try.f32 1) = arO.T1 := by kernel_rfl
theorem arO.bits1 : waitsOk arO.T1.2 arO.B1 = true := by kernel_rfl
def arO.T9 : Bool × List (List Nat × List Nat) := (true, [([], []), ([], []), ([0], [0]), ([2], [2]), ([3, 1], [1, 3]), ([4], [4]), ([], []), ([6], [6]), ([5, 7], [5, 7]), ([8], [8]), ([9], [9])])
def arO.B9 : List Nat := [0, 0, 1, 5, 15, 31, 0, 64, 255, 511, 1023]
theorem arO.tab9 : rtab .any (opsOf Try.f32 9) = arO.T9 := by kernel_rfl
theorem arO.bits9 : waitsOk arO.T9.2 arO.B9 = true := by kernel_rfl
def arO.T12 : Bool × List (List Nat × List Nat) := (true, [([], []), ([], []), ([0], [0]), ([2], [2]), ([3, 1], [1, 3]), ([4], [4]), ([], []), ([6], [6]), ([], []), ([8], [8]), ([9], [9]), ([10], [10]), ([5, 7, 0, 1, 2, 3, 4, 5, 6, 7, 8, 9, 10, 11], [5, 7]), ([12, 11, 0, 1, 2, 3, 4, 5, 6, 7, 8, 9, 10, 11], [11, 12])])
def arO.B12 : List Nat := [0, 0, 1, 5, 15, 31, 0, 64, 0, 256, 768, 1792, 4095, 8191]
theorem arO.tab12 : rtab .any (opsOf Try.f32 12) = arO.T12 := by kernel_rfl
theorem arO.bits12 : waitsOk arO.T12.2 arO.B12 = true := by kernel_rfl
def arO.T13 : Bool × List (List Nat × List Nat) := (true, [([], []), ([0], [0]), ([1], [1]), ([2], [2]), ([], []), ([4], [4]), ([], []), ([6], [6]), ([], []), ([8], [8]), ([9], [9]), ([10], [10]), ([11], [11]), ([12], [12]), ([], []), ([14], [14]), ([15], [15]), ([16], [16]), ([17], [17]), ([13, 18], [13, 18]), ([3, 5, 7, 19], [3, 5, 7, 19]), ([20], [20]), ([21], [21]), ([21], [21]), ([22, 20, 0, 1, 2, 3, 4, 5, 6, 7, 8, 9, 10, 11, 12, 13, 14, 15, 16, 17, 18, 19, 20, 21, 22], [22]), ([23, 24, 0, 1, 2, 3, 4, 5, 6, 7, 8, 9, 10, 11, 12, 13, 14, 15, 16, 17, 18, 19, 20, 21, 22, 23, 24], [23])])
def arO.B13 : List Nat := [0, 1, 3, 7, 0, 16, 0, 64, 0, 256, 768, 1792, 3840, 7936, 0, 16384, 49152, 114688, 245760, 524032, 1048575, 2097151, 4194303, 4194303, 8388607, 33554431]
theorem arO.tab13 : rtab .any (opsOf Try.f32 13) = arO.T13 := by kernel_rfl
theorem arO.bits13 : waitsOk arO.T13.2 arO.B13 = true := by kernel_rfl
def arO.T17 : Bool × List (List Nat × List Nat) := (true, [([], []), ([], []), ([1], [1]), ([2], [2]), ([3], [3]), ([], []), ([5], [5]), ([], []), ([7], [7]), ([], []), ([9], [9]), ([10], [10]), ([11], [11]), ([6, 8, 12], [6, 8, 12]), ([13], [13]), ([4, 14], [4, 14]), ([0, 0, 1, 2, 3, 4, 5, 6, 7, 8, 9, 10, 11, 12, 13, 14, 15], [0]), ([16, 0, 1, 2, 3, 4, 5, 6, 7, 8, 9, 10, 11, 12, 13, 14, 15], [16]), ([17, 15, 15, 0, 1, 2, 3, 4, 5, 6, 7, 8, 9, 10, 11, 12, 13, 14, 15], [15, 17])])
def arO.B17 : List Nat := [0, 0, 2, 6, 14, 0, 32, 0, 128, 0, 512, 1536, 3584, 8160, 16352, 32766, 65535, 131071, 262143]
theorem arO.tab17 : rtab .any (opsOf Try.f32 17) = arO.T17 := by kernel_rfl
theorem arO.bits17 : waitsOk arO.T17.2 arO.B17 = true := by kernel_rfl
def arO.T19 : Bool × List (List Nat × List Nat) := (true, [([], []), ([0], [0]), ([1], [1]), ([2], [2]), ([3], [3]), ([], []), ([5], [5]), ([6], [6]), ([7], [7]), ([4, 8], [4, 8]), ([9, 0, 1, 2, 3, 4, 5, 6, 7, 8, 9], [9])])
def arO.B19 : List Nat := [0, 1, 3, 7, 15, 0, 32, 96, 224, 511, 1023]
theorem arO.tab19 : rtab .any (opsOf Try.f32 19) = arO.T19 := by kernel_rfl
theorem arO.bits19 : waitsOk arO.T19.2 arO.B19 = true := by kernel_rfl
def arO.T20 : Bool × List (List Nat × List Nat) := (true, [([], []), ([], []), ([], []), ([1], [1]), ([3], [3]), ([4, 2], [2, 4]), ([5], [5]), ([], []), ([7], [7]), ([6, 8], [6, 8]), ([9], [9]), ([0, 10], [0, 10])])
def arO.B20 : List Nat := [0, 0, 0, 2, 10, 30, 62, 0, 128, 510, 1022, 2047]
theorem arO.tab20 : rtab .any (opsOf Try.f32 20) = arO.T20 := by kernel_rfl
theorem arO.bits20 : waitsOk arO.T20.2 arO.B20 = true := by kernel_rfl
def arO.T22 : Bool × List (List Nat × List Nat) := (true, [([], []), ([], []), ([1], [1]), ([2], [2]), ([3], [3]), ([], []), ([5], [5]), ([], []), ([7], [7]), ([], []), ([6, 8, 9], [6, 8, 9]), ([10], [10]), ([4, 11], [4, 11]), ([0, 0, 1, 2, 3, 4, 5, 6, 7, 8, 9, 10, 11, 12], [0]), ([13, 0, 1, 2, 3, 4, 5, 6, 7, 8, 9, 10, 11, 12], [13]), ([14, 12, 12, 0, 1, 2, 3, 4, 5, 6, 7, 8, 9, 10, 11, 12], [12, 14])])
def arO.B22 : List Nat := [0, 0, 2, 6, 14, 0, 32, 0, 128, 0, 992, 2016, 4094, 8191, 16383, 32767]
theorem arO.tab22 : rtab .any (opsOf Try.f32 22) = arO.T22 := by kernel_rfl
theorem arO.bits22 : waitsOk arO.T22.2 arO.B22 = true := by kernel_rfl
def arO.T24 : Bool × List (List Nat × List Nat) := (true, [([], []), ([], []), ([0], [0]), ([2], [2]), ([3, 1], [1, 3]), ([4], [4]), ([], []), ([6], [6]), ([5, 7], [5, 7]), ([8], [8]), ([9], [9]), ([10, 0, 1, 2, 3, 4, 5, 6, 7, 8, 9, 10], [10])])
def arO.B24 : List Nat := [0, 0, 1, 5, 15, 31, 0, 64, 255, 511, 1023, 2047]
theorem arO.tab24 : rtab .any (opsOf Try.f32 24) = arO.T24 := by kernel_rfl
theorem arO.bits24 : waitsOk arO.T24.2 arO.B24 = true := by kernel_rfl
theorem holdOarO {p} (h : Hd p) : p := h.out
set_option maxRecDepth 100000 in
set_option maxHeartbeats 8000000 in
theorem arrive_old (base g : Nat) (w0 w : World) (cs : Array Value) (s : Ws) (vl vt vb : Value) (vw : Nat → Value) (bd bf : Nat → Nat) (k : Nat) (r : Nat) (ak : Int) (l1 : List S44) (hk : k < 4) (h : Lay base g w cs s vl vt vb vw bd bf) (hB : Below base w0 w)
  (hr1 : 1 ≤ r) (hr2 : r ≤ 200) (hlook : session_Look.f s.l ((k : Int) + 1) (r : Int) ak = some (l1, 2, [0, s.did k (r : Int)], 0)) (hd0 : 1 ≤ s.did k (r : Int)) (hd1 : s.did k (r : Int) ≤ 200) (hlen : s.bks.length ≤ 1000000) :
  Calls Try.prog 32 #[.pointer (some ⟨g, 0, none⟩), .agg #[.int .i64 ((k : Int) + 1), .int .i64 (r : Int), .int .i64 ak]] w fun e w' => e = .returned (.bool true) ∧ LayM base g w' { s with l := l1, bks := s.bks ++ [((k : Int) + 1, (r : Int), s.did k (r : Int))] } ∧ Below base w0 w' := by
 have HL := hd h
 have HB := hd hB
 have HLK := hd hlook
 have hk4 : (k : Int) < 4 := by omega
 have hr250 : (r : Int) < 250 := by omega
 have hr0 : (0 : Int) ≤ (r : Int) := by omega
 have hu62 := Try.underlying62
 have hu65 := Try.underlying65
 have hu67 := Try.underlying67
 have hu72 := Try.underlying72
 have hu75 := Try.underlying75
 obtain ⟨A, c, hvl, hcc, hC⟩ := h.ol.reads
 have HC := hd hC
 clear h hB hC hlook
 go_enter Try.func32, Try.ntmps32
 go_wp2_with (((with_reducible refine gate_dst (N := 3) rfl ?_); refine box_event ?hg (N := 3) ?hd (cs := #[.int .i64 ((k : Int) + 1), .int .i64 (r : Int), .int .i64 ak]) (t := 72) ?hr ?_; (case hd => rfl); (case hg => rfl); (case hr => first | (go_simp; done) | (go_simp; rfl)); intro gx hg w1 hbox hb; have HX := hd hbox; replace HC := hd (Kd.C_below HC.out hb); replace HB : Hd (Below base w0 w1) := hd (below_then HB.out HL.out.bs hb); replace HL := hd (HL.out.below hb); clear hg hbox hb; refine holdOarO ?_))
 refine ⟨?_⟩
 go_wp2_with fail
 refine start_ (n := 20) (S := fun w' => w'.heap[g]? = some (.cells cs 67 (0, 0)) ∧ w'.heap[gx]? = some (.cells #[.int .i64 ((k : Int) + 1), .int .i64 (r : Int), .int .i64 ak] 72 (0, 0))) (ds := []) knceA97 (by kernel_rfl) rfl rfl ⟨HL.out.hg, HX.out⟩ (fun hHeld => ?_)
 refine with_tabW arO.tab1 arO.bits1 (fun HT_ HW_ => ?_)
 have HL0 := HL
 have HL : Hd (Lay base g w1.drew _ _ _ _ _ _ _ _) := hd (HL0.out.below (below_drew1 (Below.refl _ _)))
 have HB0 := HB
 have HB : Hd (Below base w0 w1.drew) := hd (below_drew1 HB0.out)
 have HX0 := HX
 have HX : Hd (w1.drew.heap[gx]? = _) := hd HX0.out
 have HC0 := HC
 have HC : Hd (Kd.C k44 w1.drew A s.l.length s.l) := hd (Kd.C_below HC0.out (below_drew1 (Below.refl _ _)))
 clear HC0 HL0 HB0 HX0
 generalize w1.drew = w2 at HL HB HX HC hHeld ⊢
 refine pure_ (i := 0) (N := (some 14)) (v := ?_) (a' := ?_) knceA96 rfl rfl (any_of HT_.out (by kernel_rfl)) (fun _ _ _ h => h) (Or.inl ⟨by rfl, ?_⟩) ?_ ?_
 rotate_left
 ·intro w'
  go_simp
  with_reducible rfl
 rotate_left
 ·simp only [Act.put, List.setIfInBounds_toArray, List.set_cons_zero, List.set_cons_succ, i64_w, i32_w]
  rfl
 refine pure_ (i := 1) (N := (some 15)) (v := ?_) (a' := ?_) knceA95 rfl rfl (any_of HT_.out (by kernel_rfl)) (fun _ _ _ h => h) (Or.inl ⟨by rfl, ?_⟩) ?_ ?_
 rotate_left
 ·intro w'
  go_simp
  with_reducible rfl
 rotate_left
 ·simp only [Act.put, List.setIfInBounds_toArray, List.set_cons_zero, List.set_cons_succ, i64_w, i32_w]
  rfl
 refine pure_ (i := 2) (N := (some 16)) (v := ?_) (a' := ?_) knceA94 rfl rfl (any_of HT_.out (by kernel_rfl)) (fun _ _ _ h => h) (Or.inl ⟨by rfl, ?_⟩) ?_ ?_
 rotate_left
 ·intro w'
  go_simp
  with_reducible rfl
 rotate_left
 ·simp only [Act.put, List.setIfInBounds_toArray, List.set_cons_zero, List.set_cons_succ, i64_w, i32_w]
  rfl
 refine take_ (i := 3) (N := (some 17)) (v := ?_) (a' := ?_) knceA93 rfl rfl (take_ofW HT_.out HW_.out (by kernel_rfl)) (fun _ _ _ h => h) (Or.inl ⟨by rfl, ?_⟩) hHeld ?_ ?_
 rotate_left
 ·rintro w' ⟨s0, s1⟩
  have d0 := (blk_cell s0 0).trans (HL.out.cells.c0.trans (congrArg some hvl))
  go_simp
  with_reducible rfl
 rotate_left
 ·simp only [Act.put, List.setIfInBounds_toArray, List.set_cons_zero, List.set_cons_succ, i64_w, i32_w]
  rfl
 refine pure_ (i := 4) (N := (some 18)) (v := ?_) (a' := ?_) knceA92 rfl rfl (any_of HT_.out (by kernel_rfl)) (fun _ _ _ h => h) (Or.inl ⟨by rfl, ?_⟩) ?_ ?_
 rotate_left
 ·intro w'
  go_simp
  with_reducible rfl
 rotate_left
 ·simp only [Act.put, List.setIfInBounds_toArray, List.set_cons_zero, List.set_cons_succ, i64_w, i32_w]
  rfl
 refine take_ (i := 5) (N := (some 19)) (v := ?_) (a' := ?_) knceA91 rfl rfl (take_ofW HT_.out HW_.out (by kernel_rfl)) (fun _ _ _ h => h) (Or.inl ⟨by rfl, ?_⟩) hHeld ?_ ?_
 rotate_left
 ·rintro w' ⟨s0, s1⟩
  have e0 := (blk_cell s1 0).trans rfl
  have e1 := (blk_cell s1 1).trans rfl
  have e2 := (blk_cell s1 2).trans rfl
  go_simp
  with_reducible rfl
 rotate_left
 ·simp only [Act.put, List.setIfInBounds_toArray, List.set_cons_zero, List.set_cons_succ, i64_w, i32_w]
  rfl
 refine pure_ (i := 6) (N := (some 20)) (v := ?_) (a' := ?_) knceA89 rfl rfl (any_of HT_.out (by kernel_rfl)) (fun _ _ _ h => h) (Or.inl ⟨by rfl, ?_⟩) ?_ ?_
 rotate_left
 ·intro w'
  go_simp
  with_reducible rfl
 rotate_left
 ·simp only [Act.put, List.setIfInBounds_toArray, List.set_cons_zero, List.set_cons_succ, i64_w, i32_w]
  rfl
 refine take_ (i := 7) (N := (some 21)) (v := ?_) (a' := ?_) knceA87 rfl rfl (take_ofW HT_.out HW_.out (by kernel_rfl)) (fun _ _ _ h => h) (Or.inl ⟨by rfl, ?_⟩) hHeld ?_ ?_
 rotate_left
 ·rintro w' ⟨s0, s1⟩
  have e0 := (blk_cell s1 0).trans rfl
  have e1 := (blk_cell s1 1).trans rfl
  have e2 := (blk_cell s1 2).trans rfl
  go_simp
  with_reducible rfl
 rotate_left
 ·simp only [Act.put, List.setIfInBounds_toArray, List.set_cons_zero, List.set_cons_succ, i64_w, i32_w]
  rfl
 refine pure_ (i := 8) (N := (some 22)) (v := ?_) (a' := ?_) knceA85 rfl rfl (any_of HT_.out (by kernel_rfl)) (fun _ _ _ h => h) (Or.inl ⟨by rfl, ?_⟩) ?_ ?_
 rotate_left
 ·intro w'
  go_simp
  with_reducible rfl
 rotate_left
 ·simp only [Act.put, List.setIfInBounds_toArray, List.set_cons_zero, List.set_cons_succ, i64_w, i32_w]
  rfl
 refine take_ (i := 9) (N := (some 23)) (v := ?_) (a' := ?_) knceA83 rfl rfl (take_ofW HT_.out HW_.out (by kernel_rfl)) (fun _ _ _ h => h) (Or.inl ⟨by rfl, ?_⟩) hHeld ?_ ?_
 rotate_left
 ·rintro w' ⟨s0, s1⟩
  have e0 := (blk_cell s1 0).trans rfl
  have e1 := (blk_cell s1 1).trans rfl
  have e2 := (blk_cell s1 2).trans rfl
  go_simp
  with_reducible rfl
 rotate_left
 ·simp only [Act.put, List.setIfInBounds_toArray, List.set_cons_zero, List.set_cons_succ, i64_w, i32_w]
  rfl
 refine one_ (i := 10) (N := (some 24)) knceA81 rfl rfl (one_of HT_.out (by kernel_rfl)) (by decide) (fun K hK => ?_)
 refine goes_ Try.func10 (by kernel_rfl) rfl #[.slice A s.l.length c, .int .i64 ((k : Int) + 1), .int .i64 (r : Int), .int .i64 ak] (by rfl) rfl rfl (by (try simp only [List.map_toArray, List.map_cons, List.map_nil]); first | done | rfl) ?_
 refine (session_Look.calls A c s.l ((k : Int) + 1) (r : Int) ak l1 2 [0, s.did k (r : Int)] 0 w2 HC.out hcc HLK.out).mono ?_
 rintro e w3 ⟨v0, v2, rfl, hR0, hR2, b⟩
 refine ⟨_, rfl, ?_⟩
 have HO1 : Hd (Own k44 44 base w3 v0 l1) := hd (Own.of hR0 HL.out.bs)
 have HREP : Hd (Own (Kd.int .u8) 5 base w3 v2 [0, s.did k (r : Int)]) := hd (Own.of hR2 HL.out.bs)
 obtain ⟨A0, c0, rfl, _, _⟩ := Kd.R_reads hR0
 obtain ⟨A2, c2, rfl, _, _⟩ := Kd.R_reads hR2
 replace HB : Hd (Below base w0 w3) := hd (below_then HB.out HL.out.bs b)
 replace HL := hd (HL.out.below b)
 replace HX := hd (blk_below HX.out b)
 refine hK.out _ _ ⟨HL.out.hg, HX.out⟩ (fun hHeld => ?_)
 clear hK K b hR0 hR2 HC
 refine norm_ (a' := ?_) ?_ ?_
 rotate_left
 ·show Act.put _ (some 24) _ = _
  simp only [Act.put, List.setIfInBounds_toArray, List.set_cons_zero, List.set_cons_succ, i64_w, i32_w]
  rfl
 refine pure_ (i := 11) (N := (some 13)) (v := ?_) (a' := ?_) knceA79 rfl rfl (any_of HT_.out (by kernel_rfl)) (fun _ _ _ h => h) (Or.inl ⟨by rfl, ?_⟩) ?_ ?_
 rotate_left
 ·intro w'
  go_simp
  with_reducible rfl
 rotate_left
 ·simp only [Act.put, List.setIfInBounds_toArray, List.set_cons_zero, List.set_cons_succ, i64_w, i32_w]
  rfl
 refine pure_ (i := 12) (N := (some 25)) (v := ?_) (a' := ?_) knceA77 rfl rfl (any_of HT_.out (by kernel_rfl)) (fun _ _ _ h => h) (Or.inl ⟨by rfl, ?_⟩) ?_ ?_
 rotate_left
 ·intro w'
  go_simp
  with_reducible rfl
 rotate_left
 ·simp only [Act.put, List.setIfInBounds_toArray, List.set_cons_zero, List.set_cons_succ, i64_w, i32_w]
  rfl
 refine pure_ (i := 13) (N := (some 26)) (v := ?_) (a' := ?_) knceA75 rfl rfl (any_of HT_.out (by kernel_rfl)) (fun _ _ _ h => h) (Or.inl ⟨by rfl, ?_⟩) ?_ ?_
 rotate_left
 ·intro w'
  go_simp
  with_reducible rfl
 rotate_left
 ·simp only [Act.put, List.setIfInBounds_toArray, List.set_cons_zero, List.set_cons_succ, i64_w, i32_w]
  rfl
 refine pure_ (i := 14) (N := (some 27)) (v := ?_) (a' := ?_) knceA73 rfl rfl (any_of HT_.out (by kernel_rfl)) (fun _ _ _ h => h) (Or.inl ⟨by rfl, ?_⟩) ?_ ?_
 rotate_left
 ·intro w'
  go_simp
  with_reducible rfl
 rotate_left
 ·simp only [Act.put, List.setIfInBounds_toArray, List.set_cons_zero, List.set_cons_succ, i64_w, i32_w]
  rfl
 refine pure_ (i := 15) (N := (some 28)) (v := ?_) (a' := ?_) knceA71 rfl rfl (any_of HT_.out (by kernel_rfl)) (fun _ _ _ h => h) (Or.inl ⟨by rfl, ?_⟩) ?_ ?_
 rotate_left
 ·intro w'
  go_simp
  with_reducible rfl
 rotate_left
 ·simp only [Act.put, List.setIfInBounds_toArray, List.set_cons_zero, List.set_cons_succ, i64_w, i32_w]
  rfl
 refine pure_ (i := 16) (N := (some 5)) (v := ?_) (a' := ?_) knceA69 rfl rfl (any_of HT_.out (by kernel_rfl)) (fun _ _ _ h => h) (Or.inl ⟨by rfl, ?_⟩) ?_ ?_
 rotate_left
 ·intro w'
  go_simp
  with_reducible rfl
 rotate_left
 ·simp only [Act.put, List.setIfInBounds_toArray, List.set_cons_zero, List.set_cons_succ, i64_w, i32_w]
  rfl
 refine pure_ (i := 17) (N := (some 6)) (v := ?_) (a' := ?_) knceA67 rfl rfl (any_of HT_.out (by kernel_rfl)) (fun _ _ _ h => h) (Or.inl ⟨by rfl, ?_⟩) ?_ ?_
 rotate_left
 ·intro w'
  go_simp
  with_reducible rfl
 rotate_left
 ·simp only [Act.put, List.setIfInBounds_toArray, List.set_cons_zero, List.set_cons_succ, i64_w, i32_w]
  rfl
 refine pure_ (i := 18) (N := (some 7)) (v := ?_) (a' := ?_) knceA65 rfl rfl (any_of HT_.out (by kernel_rfl)) (fun _ _ _ h => h) (Or.inl ⟨by rfl, ?_⟩) ?_ ?_
 rotate_left
 ·intro w'
  go_simp
  with_reducible rfl
 rotate_left
 ·simp only [Act.put, List.setIfInBounds_toArray, List.set_cons_zero, List.set_cons_succ, i64_w, i32_w]
  rfl
 refine pure_ (i := 19) (N := (some 8)) (v := ?_) (a' := ?_) knceA63 rfl rfl (any_of HT_.out (by kernel_rfl)) (fun _ _ _ h => h) (Or.inl ⟨by rfl, ?_⟩) ?_ ?_
 rotate_left
 ·intro w'
  go_simp
  with_reducible rfl
 rotate_left
 ·simp only [Act.put, List.setIfInBounds_toArray, List.set_cons_zero, List.set_cons_succ, i64_w, i32_w]
  rfl
 refine done_ (done_of HT_.out (by kernel_rfl)) ?_
 clear HT_ HW_
 have e0 := (blk_cell HX.out 0).trans rfl
 go_wp2_with ((with_reducible refine gate_store (t := 22) (p := 37) rfl ?_); refine wpList_store1 rfl 22 (.tmp 37) (.tmp 35) rfl g 0 (.slice A0 l1.length c0) rfl rfl ?hrun ?_; (case hrun => (have c_ := (blk_cell HL.out.hg 0).trans HL.out.cells.c0; have f_ := blk_frozen HL.out.hg 0; go_simp; first | done | rfl)); refine holdOarO ?_)
 refine ⟨?_⟩
 clear e0
 have T4 := turn_set (j := 0) HL.out.hg HL.out.gb (.slice A0 l1.length c0)
 have HL4 := hd (HL.out.put_l HO1.out)
 replace HB := hd (HB.out.trans T4.below)
 replace HX := hd (T4.keep _ _ _ HX.out (by decide))
 replace HREP := hd (HREP.out.turn T4 (by decide))
 clear HL T4 HO1 hcc hvl
 have HL := HL4
 clear HL4
 generalize World.setCell _ _ _ = w4 at HL HB HX HREP ⊢
 obtain ⟨A2', c2', he2, hc2, hC2⟩ := HREP.out.reads
 injection he2 with he2 _ he3
 subst he2
 subst he3
 have hC2' : Kd.C (Kd.int .u8) w4 A2 2 [0, s.did k (r : Int)] := hC2
 obtain ⟨bq, hRq⟩ := HREP.out
 obtain ⟨inner, ho⟩ := Kd.R_own hRq
 obtain ⟨ga, rfl⟩ : ∃ ga : Nat, A2 = some ⟨ga, 0, none⟩ := by
  rcases ho.2 with ⟨he, _⟩ | ⟨ga, cap, cur, he, _⟩
  ·simp at he
  ·injection he with he1 _ _
   exact ⟨ga, he1⟩
 clear hRq ho
 have HC2 := hd hC2'
 clear hC2 hC2' hc2 HREP
 go_wp2_with fail
 refine start_ (n := 11) (S := fun w' => w'.heap[g]? = some (.cells (cs.setIfInBounds 0 (.slice A0 l1.length c0)) 67 (0, 0)) ∧ w'.heap[gx]? = some (.cells #[.int .i64 ((k : Int) + 1), .int .i64 (r : Int), .int .i64 ak] 72 (0, 0)) ∧ Kd.C (Kd.int .u8) w' (some ⟨ga, 0, none⟩) 2 [0, s.did k (r : Int)]) (ds := []) knceA17 (by kernel_rfl) rfl rfl ⟨HL.out.hg, HX.out, HC2.out⟩ (fun hHeld => ?_)
 refine with_tabW arO.tab19 arO.bits19 (fun HT_ HW_ => ?_)
 have HL0 := HL
 have HL : Hd (Lay base g w4.drew _ _ _ _ _ _ _ _) := hd (HL0.out.below (below_drew1 (Below.refl _ _)))
 have HB0 := HB
 have HB : Hd (Below base w0 w4.drew) := hd (below_drew1 HB0.out)
 have HX0 := HX
 have HX : Hd (w4.drew.heap[gx]? = _) := hd HX0.out
 have HC20 := HC2
 have HC2 : Hd (Kd.C (Kd.int .u8) w4.drew (some ⟨ga, 0, none⟩) 2 _) := hd (Kd.C_below HC20.out (below_drew1 (Below.refl _ _)))
 clear HC20 HL0 HB0 HX0
 generalize w4.drew = w5 at HL HB HX HC2 hHeld ⊢
 refine pure_ (i := 0) (N := (some 122)) (v := ?_) (a' := ?_) knceA15 rfl rfl (any_of HT_.out (by kernel_rfl)) (fun _ _ _ h => h) (Or.inl ⟨by rfl, ?_⟩) ?_ ?_
 rotate_left
 ·intro w'
  go_simp
  with_reducible rfl
 rotate_left
 ·simp only [Act.put, List.setIfInBounds_toArray, List.set_cons_zero, List.set_cons_succ, i64_w, i32_w]
  rfl
 refine pure_ (i := 1) (N := (some 123)) (v := ?_) (a' := ?_) knceA13 rfl rfl (any_of HT_.out (by kernel_rfl)) (fun _ _ _ h => h) (Or.inl ⟨by rfl, ?_⟩) ?_ ?_
 rotate_left
 ·intro w'
  go_simp
  with_reducible rfl
 rotate_left
 ·simp only [Act.put, List.setIfInBounds_toArray, List.set_cons_zero, List.set_cons_succ, i64_w, i32_w]
  rfl
 refine take_ (i := 2) (N := (some 124)) (v := ?_) (a' := ?_) knceA11 rfl rfl (take_ofW HT_.out HW_.out (by kernel_rfl)) (fun _ _ _ h => h) (Or.inl ⟨by rfl, ?_⟩) hHeld ?_ ?_
 rotate_left
 ·rintro w' ⟨s0, s1, s2⟩
  obtain ⟨ex0_, ex1_⟩ := two_bytes s2
  go_simp
  with_reducible rfl
 rotate_left
 ·simp only [Act.put, List.setIfInBounds_toArray, List.set_cons_zero, List.set_cons_succ, i64_w, i32_w]
  rfl
 refine pure_ (i := 3) (N := (some 125)) (v := ?_) (a' := ?_) knceA9 rfl rfl (any_of HT_.out (by kernel_rfl)) (fun _ _ _ h => h) (Or.inl ⟨by rfl, ?_⟩) ?_ ?_
 rotate_left
 ·intro w'
  go_simp
  rw [wrap_id (by omega)]
  first | done | with_reducible rfl
 rotate_left
 ·simp only [Act.put, List.setIfInBounds_toArray, List.set_cons_zero, List.set_cons_succ, i64_w, i32_w]
  rfl
 refine pure_ (i := 4) (N := (some 126)) (v := ?_) (a' := ?_) knceA7 rfl rfl (any_of HT_.out (by kernel_rfl)) (fun _ _ _ h => h) (Or.inl ⟨by rfl, ?_⟩) ?_ ?_
 rotate_left
 ·intro w'
  go_simp
  first | rw [wrap_id (x := 0 * 256) (by omega)] | rw [wrap_id (x := 0) (by omega)] | rw [wrap64_id (x := 0 * 256) (by omega)] | rw [wrap64_id (x := 0) (by omega)] | skip
  first | done | with_reducible rfl
 rotate_left
 ·simp only [Act.put, List.setIfInBounds_toArray, List.set_cons_zero, List.set_cons_succ, i64_w, i32_w]
  rfl
 refine pure_ (i := 5) (N := (some 127)) (v := ?_) (a' := ?_) knceA5 rfl rfl (any_of HT_.out (by kernel_rfl)) (fun _ _ _ h => h) (Or.inl ⟨by rfl, ?_⟩) ?_ ?_
 rotate_left
 ·intro w'
  go_simp
  with_reducible rfl
 rotate_left
 ·simp only [Act.put, List.setIfInBounds_toArray, List.set_cons_zero, List.set_cons_succ, i64_w, i32_w]
  rfl
 refine pure_ (i := 6) (N := (some 128)) (v := ?_) (a' := ?_) knceA4 rfl rfl (any_of HT_.out (by kernel_rfl)) (fun _ _ _ h => h) (Or.inl ⟨by rfl, ?_⟩) ?_ ?_
 rotate_left
 ·intro w'
  go_simp
  with_reducible rfl
 rotate_left
 ·simp only [Act.put, List.setIfInBounds_toArray, List.set_cons_zero, List.set_cons_succ, i64_w, i32_w]
  rfl
 refine take_ (i := 7) (N := (some 129)) (v := ?_) (a' := ?_) knceA3 rfl rfl (take_ofW HT_.out HW_.out (by kernel_rfl)) (fun _ _ _ h => h) (Or.inl ⟨by rfl, ?_⟩) hHeld ?_ ?_
 rotate_left
 ·rintro w' ⟨s0, s1, s2⟩
  obtain ⟨ex0_, ex1_⟩ := two_bytes s2
  go_simp
  with_reducible rfl
 rotate_left
 ·simp only [Act.put, List.setIfInBounds_toArray, List.set_cons_zero, List.set_cons_succ, i64_w, i32_w]
  rfl
 refine pure_ (i := 8) (N := (some 130)) (v := ?_) (a' := ?_) knceA2 rfl rfl (any_of HT_.out (by kernel_rfl)) (fun _ _ _ h => h) (Or.inl ⟨by rfl, ?_⟩) ?_ ?_
 rotate_left
 ·intro w'
  go_simp
  rw [wrap_id (by omega)]
  first | done | with_reducible rfl
 rotate_left
 ·simp only [Act.put, List.setIfInBounds_toArray, List.set_cons_zero, List.set_cons_succ, i64_w, i32_w]
  rfl
 refine pure_ (i := 9) (N := (some 131)) (v := ?_) (a' := ?_) knceA1 rfl rfl (any_of HT_.out (by kernel_rfl)) (fun _ _ _ h => h) (Or.inl ⟨by rfl, ?_⟩) ?_ ?_
 rotate_left
 ·intro w'
  go_simp
  rw [bits_or0 (by omega) (by omega)]
  first | done | with_reducible rfl
 rotate_left
 ·simp only [Act.put, List.setIfInBounds_toArray, List.set_cons_zero, List.set_cons_succ, i64_w, i32_w]
  rfl
 refine pure_ (i := 10) (N := (some 12)) (v := ?_) (a' := ?_) knceA0 rfl rfl (any_of HT_.out (by kernel_rfl)) (fun _ _ _ h => h) (Or.inl ⟨by rfl, ?_⟩) ?_ ?_
 rotate_left
 ·intro w'
  go_simp
  with_reducible rfl
 rotate_left
 ·simp only [Act.put, List.setIfInBounds_toArray, List.set_cons_zero, List.set_cons_succ, i64_w, i32_w]
  rfl
 refine done_ (done_of HT_.out (by kernel_rfl)) ?_
 clear HT_ HW_
 clear HC2
 go_wp2_with fail
 refine start_ (n := 12) (S := fun w' => w'.heap[g]? = some (.cells (cs.setIfInBounds 0 (.slice A0 l1.length c0)) 67 (0, 0)) ∧ w'.heap[gx]? = some (.cells #[.int .i64 ((k : Int) + 1), .int .i64 (r : Int), .int .i64 ak] 72 (0, 0)) ∧ w'.heap[bd k]? = some (.cells (row250 (s.did k)) 3 (0, 0))) (ds := []) knceA24 (by kernel_rfl) rfl rfl ⟨HL.out.hg, HX.out, (HL.out.od k hk).2⟩ (fun hHeld => ?_)
 refine with_tabW arO.tab20 arO.bits20 (fun HT_ HW_ => ?_)
 have HL0 := HL
 have HL : Hd (Lay base g w5.drew _ _ _ _ _ _ _ _) := hd (HL0.out.below (below_drew1 (Below.refl _ _)))
 have HB0 := HB
 have HB : Hd (Below base w0 w5.drew) := hd (below_drew1 HB0.out)
 have HX0 := HX
 have HX : Hd (w5.drew.heap[gx]? = _) := hd HX0.out
 clear HL0 HB0 HX0
 generalize w5.drew = w6 at HL HB HX hHeld ⊢
 refine pure_ (i := 0) (N := (some 132)) (v := ?_) (a' := ?_) knceA23 rfl rfl (any_of HT_.out (by kernel_rfl)) (fun _ _ _ h => h) (Or.inl ⟨by rfl, ?_⟩) ?_ ?_
 rotate_left
 ·intro w'
  go_simp
  with_reducible rfl
 rotate_left
 ·simp only [Act.put, List.setIfInBounds_toArray, List.set_cons_zero, List.set_cons_succ, i64_w, i32_w]
  rfl
 refine pure_ (i := 1) (N := (some 133)) (v := ?_) (a' := ?_) knceA22 rfl rfl (any_of HT_.out (by kernel_rfl)) (fun _ _ _ h => h) (Or.inl ⟨by rfl, ?_⟩) ?_ ?_
 rotate_left
 ·intro w'
  go_simp
  with_reducible rfl
 rotate_left
 ·simp only [Act.put, List.setIfInBounds_toArray, List.set_cons_zero, List.set_cons_succ, i64_w, i32_w]
  rfl
 refine pure_ (i := 2) (N := (some 134)) (v := ?_) (a' := ?_) knceA21 rfl rfl (any_of HT_.out (by kernel_rfl)) (fun _ _ _ h => h) (Or.inl ⟨by rfl, ?_⟩) ?_ ?_
 rotate_left
 ·intro w'
  go_simp
  with_reducible rfl
 rotate_left
 ·simp only [Act.put, List.setIfInBounds_toArray, List.set_cons_zero, List.set_cons_succ, i64_w, i32_w]
  rfl
 refine pure_ (i := 3) (N := (some 135)) (v := ?_) (a' := ?_) knceA20 rfl rfl (any_of HT_.out (by kernel_rfl)) (fun _ _ _ h => h) (Or.inl ⟨by rfl, ?_⟩) ?_ ?_
 rotate_left
 ·intro w'
  go_simp
  with_reducible rfl
 rotate_left
 ·simp only [Act.put, List.setIfInBounds_toArray, List.set_cons_zero, List.set_cons_succ, i64_w, i32_w]
  rfl
 refine pure_ (i := 4) (N := (some 136)) (v := ?_) (a' := ?_) knceA19 rfl rfl (any_of HT_.out (by kernel_rfl)) (fun _ _ _ h => h) (Or.inl ⟨by rfl, ?_⟩) ?_ ?_
 rotate_left
 ·intro w'
  go_simp
  with_reducible rfl
 rotate_left
 ·simp only [Act.put, List.setIfInBounds_toArray, List.set_cons_zero, List.set_cons_succ, i64_w, i32_w]
  rfl
 refine pure_ (i := 5) (N := (some 137)) (v := ?_) (a' := ?_) knceA18 rfl rfl (any_of HT_.out (by kernel_rfl)) (fun _ _ _ h => h) (Or.inl ⟨by rfl, ?_⟩) ?_ ?_
 rotate_left
 ·intro w'
  go_simp
  with_reducible rfl
 rotate_left
 ·simp only [Act.put, List.setIfInBounds_toArray, List.set_cons_zero, List.set_cons_succ, i64_w, i32_w]
  rfl
 refine take_ (i := 6) (N := (some 138)) (v := ?_) (a' := ?_) knceA16 rfl rfl (take_ofW HT_.out HW_.out (by kernel_rfl)) (fun _ _ _ h => h) (Or.inl ⟨by rfl, ?_⟩) hHeld ?_ ?_
 rotate_left
 ·rintro w' ⟨s0, s1, s2⟩
  have f0 := (blk_cell s0 (19 + k)).trans (HL.out.cells.cd k hk)
  unfold arrC at f0
  go_simp
  with_reducible rfl
 rotate_left
 ·simp only [Act.put, List.setIfInBounds_toArray, List.set_cons_zero, List.set_cons_succ, i64_w, i32_w]
  rfl
 refine pure_ (i := 7) (N := (some 139)) (v := ?_) (a' := ?_) knceA14 rfl rfl (any_of HT_.out (by kernel_rfl)) (fun _ _ _ h => h) (Or.inl ⟨by rfl, ?_⟩) ?_ ?_
 rotate_left
 ·intro w'
  go_simp
  with_reducible rfl
 rotate_left
 ·simp only [Act.put, List.setIfInBounds_toArray, List.set_cons_zero, List.set_cons_succ, i64_w, i32_w]
  rfl
 refine take_ (i := 8) (N := (some 140)) (v := ?_) (a' := ?_) knceA12 rfl rfl (take_ofW HT_.out HW_.out (by kernel_rfl)) (fun _ _ _ h => h) (Or.inl ⟨by rfl, ?_⟩) hHeld ?_ ?_
 rotate_left
 ·rintro w' ⟨s0, s1, s2⟩
  have e0 := (blk_cell s1 0).trans rfl
  have e1 := (blk_cell s1 1).trans rfl
  have e2 := (blk_cell s1 2).trans rfl
  go_simp
  with_reducible rfl
 rotate_left
 ·simp only [Act.put, List.setIfInBounds_toArray, List.set_cons_zero, List.set_cons_succ, i64_w, i32_w]
  rfl
 refine pure_ (i := 9) (N := (some 141)) (v := ?_) (a' := ?_) knceA10 rfl rfl (any_of HT_.out (by kernel_rfl)) (fun _ _ _ h => h) (Or.inl ⟨by rfl, ?_⟩) ?_ ?_
 rotate_left
 ·intro w'
  go_simp
  with_reducible rfl
 rotate_left
 ·simp only [Act.put, List.setIfInBounds_toArray, List.set_cons_zero, List.set_cons_succ, i64_w, i32_w]
  rfl
 refine take_ (i := 10) (N := (some 142)) (v := ?_) (a' := ?_) knceA8 rfl rfl (take_ofW HT_.out HW_.out (by kernel_rfl)) (fun _ _ _ h => h) (Or.inl ⟨by rfl, ?_⟩) hHeld ?_ ?_
 rotate_left
 ·rintro w' ⟨s0, s1, s2⟩
  have f1 := (blk_cell s2 r).trans (row250_at _ r (by omega))
  go_simp
  with_reducible rfl
 rotate_left
 ·simp only [Act.put, List.setIfInBounds_toArray, List.set_cons_zero, List.set_cons_succ, i64_w, i32_w]
  rfl
 refine pure_ (i := 11) (N := (some 143)) (v := ?_) (a' := ?_) knceA6 rfl rfl (any_of HT_.out (by kernel_rfl)) (fun _ _ _ h => h) (Or.inl ⟨by rfl, ?_⟩) ?_ ?_
 rotate_left
 ·intro w'
  go_simp
  with_reducible rfl
 rotate_left
 ·simp only [Act.put, List.setIfInBounds_toArray, List.set_cons_zero, List.set_cons_succ, i64_w, i32_w]
  rfl
 refine done_ (done_of HT_.out (by kernel_rfl)) ?_
 clear HT_ HW_
 go_wp2_with fail
 refine start_ (n := 16) (S := fun w' => w'.heap[g]? = some (.cells (cs.setIfInBounds 0 (.slice A0 l1.length c0)) 67 (0, 0)) ∧ w'.heap[gx]? = some (.cells #[.int .i64 ((k : Int) + 1), .int .i64 (r : Int), .int .i64 ak] 72 (0, 0))) (ds := [12, 13, 14, 15]) #[false, false, false, false, false, false, false, false, false, false, false, false, false, false, false, false] (by kernel_rfl) rfl rfl ⟨HL.out.hg, HX.out⟩ (fun hHeld => ?_)
 refine with_tabW arO.tab22 arO.bits22 (fun HT_ HW_ => ?_)
 have HL0 := HL
 have HL : Hd (Lay base g w6.drew _ _ _ _ _ _ _ _) := hd (HL0.out.below (below_drew1 (Below.refl _ _)))
 have HB0 := HB
 have HB : Hd (Below base w0 w6.drew) := hd (below_drew1 HB0.out)
 have HX0 := HX
 have HX : Hd (w6.drew.heap[gx]? = _) := hd HX0.out
 clear HL0 HB0 HX0
 generalize w6.drew = w7 at HL HB HX hHeld ⊢
 refine pure_ (i := 0) (N := (some 144)) (v := ?_) (a' := ?_) #[true, false, false, false, false, false, false, false, false, false, false, false, false, false, false, false] rfl rfl (any_of HT_.out (by kernel_rfl)) (fun _ _ _ h => h) (Or.inl ⟨by rfl, ?_⟩) ?_ ?_
 rotate_left
 ·intro w'
  go_simp
  with_reducible rfl
 rotate_left
 ·simp only [Act.put, List.setIfInBounds_toArray, List.set_cons_zero, List.set_cons_succ, i64_w, i32_w]
  rfl
 refine pure_ (i := 1) (N := (some 145)) (v := ?_) (a' := ?_) #[true, true, false, false, false, false, false, false, false, false, false, false, false, false, false, false] rfl rfl (any_of HT_.out (by kernel_rfl)) (fun _ _ _ h => h) (Or.inl ⟨by rfl, ?_⟩) ?_ ?_
 rotate_left
 ·intro w'
  go_simp
  with_reducible rfl
 rotate_left
 ·simp only [Act.put, List.setIfInBounds_toArray, List.set_cons_zero, List.set_cons_succ, i64_w, i32_w]
  rfl
 refine pure_ (i := 2) (N := (some 146)) (v := ?_) (a' := ?_) #[true, true, true, false, false, false, false, false, false, false, false, false, false, false, false, false] rfl rfl (any_of HT_.out (by kernel_rfl)) (fun _ _ _ h => h) (Or.inl ⟨by rfl, ?_⟩) ?_ ?_
 rotate_left
 ·intro w'
  go_simp
  with_reducible rfl
 rotate_left
 ·simp only [Act.put, List.setIfInBounds_toArray, List.set_cons_zero, List.set_cons_succ, i64_w, i32_w]
  rfl
 refine pure_ (i := 3) (N := (some 147)) (v := ?_) (a' := ?_) #[true, true, true, true, false, false, false, false, false, false, false, false, false, false, false, false] rfl rfl (any_of HT_.out (by kernel_rfl)) (fun _ _ _ h => h) (Or.inl ⟨by rfl, ?_⟩) ?_ ?_
 rotate_left
 ·intro w'
  go_simp
  with_reducible rfl
 rotate_left
 ·simp only [Act.put, List.setIfInBounds_toArray, List.set_cons_zero, List.set_cons_succ, i64_w, i32_w]
  rfl
 refine take_ (i := 4) (N := (some 148)) (v := ?_) (a' := ?_) #[true, true, true, true, true, false, false, false, false, false, false, false, false, false, false, false] rfl rfl (take_ofW HT_.out HW_.out (by kernel_rfl)) (fun _ _ _ h => h) (Or.inl ⟨by rfl, ?_⟩) hHeld ?_ ?_
 rotate_left
 ·rintro w' ⟨s0, s1⟩
  have d18 := (blk_cell s0 18).trans HL.out.cells.cb
  go_simp
  with_reducible rfl
 rotate_left
 ·simp only [Act.put, List.setIfInBounds_toArray, List.set_cons_zero, List.set_cons_succ, i64_w, i32_w]
  rfl
 refine pure_ (i := 5) (N := (some 149)) (v := ?_) (a' := ?_) #[true, true, true, true, true, true, false, false, false, false, false, false, false, false, false, false] rfl rfl (any_of HT_.out (by kernel_rfl)) (fun _ _ _ h => h) (Or.inl ⟨by rfl, ?_⟩) ?_ ?_
 rotate_left
 ·intro w'
  go_simp
  with_reducible rfl
 rotate_left
 ·simp only [Act.put, List.setIfInBounds_toArray, List.set_cons_zero, List.set_cons_succ, i64_w, i32_w]
  rfl
 refine take_ (i := 6) (N := (some 150)) (v := ?_) (a' := ?_) #[true, true, true, true, true, true, true, false, false, false, false, false, false, false, false, false] rfl rfl (take_ofW HT_.out HW_.out (by kernel_rfl)) (fun _ _ _ h => h) (Or.inl ⟨by rfl, ?_⟩) hHeld ?_ ?_
 rotate_left
 ·rintro w' ⟨s0, s1⟩
  have e0 := (blk_cell s1 0).trans rfl
  have e1 := (blk_cell s1 1).trans rfl
  have e2 := (blk_cell s1 2).trans rfl
  go_simp
  with_reducible rfl
 rotate_left
 ·simp only [Act.put, List.setIfInBounds_toArray, List.set_cons_zero, List.set_cons_succ, i64_w, i32_w]
  rfl
 refine pure_ (i := 7) (N := (some 151)) (v := ?_) (a' := ?_) #[true, true, true, true, true, true, true, true, false, false, false, false, false, false, false, false] rfl rfl (any_of HT_.out (by kernel_rfl)) (fun _ _ _ h => h) (Or.inl ⟨by rfl, ?_⟩) ?_ ?_
 rotate_left
 ·intro w'
  go_simp
  with_reducible rfl
 rotate_left
 ·simp only [Act.put, List.setIfInBounds_toArray, List.set_cons_zero, List.set_cons_succ, i64_w, i32_w]
  rfl
 refine take_ (i := 8) (N := (some 152)) (v := ?_) (a' := ?_) #[true, true, true, true, true, true, true, true, true, false, false, false, false, false, false, false] rfl rfl (take_ofW HT_.out HW_.out (by kernel_rfl)) (fun _ _ _ h => h) (Or.inl ⟨by rfl, ?_⟩) hHeld ?_ ?_
 rotate_left
 ·rintro w' ⟨s0, s1⟩
  have e0 := (blk_cell s1 0).trans rfl
  have e1 := (blk_cell s1 1).trans rfl
  have e2 := (blk_cell s1 2).trans rfl
  go_simp
  with_reducible rfl
 rotate_left
 ·simp only [Act.put, List.setIfInBounds_toArray, List.set_cons_zero, List.set_cons_succ, i64_w, i32_w]
  rfl
 refine pure_ (i := 9) (N := (some 153)) (v := ?_) (a' := ?_) #[true, true, true, true, true, true, true, true, true, true, false, false, false, false, false, false] rfl rfl (any_of HT_.out (by kernel_rfl)) (fun _ _ _ h => h) (Or.inl ⟨by rfl, ?_⟩) ?_ ?_
 rotate_left
 ·intro w'
  go_simp
  with_reducible rfl
 rotate_left
 ·simp only [Act.put, List.setIfInBounds_toArray, List.set_cons_zero, List.set_cons_succ, i64_w, i32_w]
  rfl
 refine pure_ (i := 10) (N := (some 154)) (v := ?_) (a' := ?_) #[true, true, true, true, true, true, true, true, true, true, true, false, false, false, false, false] rfl rfl (any_of HT_.out (by kernel_rfl)) (fun _ _ _ h => h) (Or.inl ⟨by rfl, ?_⟩) ?_ ?_
 rotate_left
 ·intro w'
  go_simp
  with_reducible rfl
 rotate_left
 ·simp only [Act.put, List.setIfInBounds_toArray, List.set_cons_zero, List.set_cons_succ, i64_w, i32_w]
  rfl
 refine one_ (i := 11) (N := (some 155)) #[true, true, true, true, true, true, true, true, true, true, true, true, false, false, false, false] rfl rfl (one_of HT_.out (by kernel_rfl)) (by decide) (fun K hK => ?_)
 refine value_ (w1 := w7.alloc (.cells #[.int .i64 ((k : Int) + 1), .int .i64 (r : Int), .int .i64 (s.did k (r : Int))] 75)) (v := .slice (some ⟨w7.heap.size, 0, none⟩) 1 1) (by rfl) rfl ?_ ?_
 ·go_simp
  first | done | rfl
 have b : Below w7.heap.size w7 (w7.alloc (.cells #[.int .i64 ((k : Int) + 1), .int .i64 (r : Int), .int .i64 (s.did k (r : Int))] 75)) := below_alloc (Below.refl _ w7) _
 have HN := hd (blk_new w7 (.cells #[.int .i64 ((k : Int) + 1), .int .i64 (r : Int), .int .i64 (s.did k (r : Int))] 75))
 replace HB : Hd (Below base w0 (w7.alloc (.cells #[.int .i64 ((k : Int) + 1), .int .i64 (r : Int), .int .i64 (s.did k (r : Int))] 75))) := hd (below_then HB.out HL.out.bs b)
 replace HL := hd (HL.out.below b)
 replace HX := hd (blk_below HX.out b)
 refine hK.out _ _ ⟨HL.out.hg, HX.out⟩ (fun hHeld => ?_)
 clear hK K b hHeld
 generalize w7.heap.size = gn at HN ⊢
 generalize w7.alloc _ = wn at HL HB HX HN ⊢
 refine norm_ (a' := ?_) ?_ ?_
 rotate_left
 ·show Act.put _ (some 155) _ = _
  simp only [Act.put, List.setIfInBounds_toArray, List.set_cons_zero, List.set_cons_succ, i64_w, i32_w]
  rfl
 refine last_ (i := 12) (N := (some 156)) #[true, true, true, true, true, true, true, true, true, true, true, true, true, false, false, false] rfl rfl (one_of HT_.out (by kernel_rfl)) (by decide) (fun K hK => ?_)
 obtain ⟨v8, w8, hr, hv8, Tt⟩ := HL.out.ob.append (sl := 64) Try.underlying64 info75 HL.out.bs ((k : Int) + 1, (r : Int), s.did k (r : Int)) ⟨gn, 0, none⟩ (fun j u hj => by
  rw [Addr.add_lit, Nat.zero_add, blk_cell HN.out j, ← Array.getElem?_toList]
  exact hj) hlen 64
 refine value_ (w1 := w8) (v := v8) (by rfl) rfl ?_ ?_
 ·unfold execOp
  simp [Deferred.ofValue, invoke, resolve, Act.eval, builtin, hr]
 have HL9 := hd (HL.out.put_b Tt hv8)
 have hg9 := hd (Tt.keep _ _ _ HL.out.hg (by decide))
 have HB9 := hd ((HB.out.trans Tt.below).trans (turn_set (j := 18) hg9.out HL.out.gb v8).below)
 refine hK.out _ _ ?_
 clear hK K hr
 refine norm_ (a' := ?_) ?_ ?_
 rotate_left
 ·show Act.put _ (some 156) _ = _
  simp only [Act.put, List.setIfInBounds_toArray, List.set_cons_zero, List.set_cons_succ, i64_w, i32_w]
  rfl
 refine pure_ (i := 13) (N := (some 157)) (v := ?_) (a' := ?_) #[true, true, true, true, true, true, true, true, true, true, true, true, true, true, false, false] rfl rfl (any_of HT_.out (by kernel_rfl)) (fun _ _ _ h => h) (Or.inl ⟨by rfl, ?_⟩) ?_ ?_
 rotate_left
 ·intro w'
  go_simp
  with_reducible rfl
 rotate_left
 ·simp only [Act.put, List.setIfInBounds_toArray, List.set_cons_zero, List.set_cons_succ, i64_w, i32_w]
  rfl
 refine pure_ (i := 14) (N := (some 158)) (v := ?_) (a' := ?_) #[true, true, true, true, true, true, true, true, true, true, true, true, true, true, true, false] rfl rfl (any_of HT_.out (by kernel_rfl)) (fun _ _ _ h => h) (Or.inl ⟨by rfl, ?_⟩) ?_ ?_
 rotate_left
 ·intro w'
  go_simp
  with_reducible rfl
 rotate_left
 ·simp only [Act.put, List.setIfInBounds_toArray, List.set_cons_zero, List.set_cons_succ, i64_w, i32_w]
  rfl
 refine last_ (i := 15) (N := none) #[true, true, true, true, true, true, true, true, true, true, true, true, true, true, true, true] rfl rfl (one_of HT_.out (by kernel_rfl)) (by decide) (fun K hK => ?_)
 have cf := (blk_cell hg9.out 18).trans HL.out.cells.cb
 have ff := blk_frozen hg9.out 18
 refine skip_ (w1 := w8.setCell ⟨g, 18, none⟩ v8) (by rfl) rfl ?_ ?_
 ·obtain ⟨A8, c8, hv, _⟩ := hv8.slice
  subst hv
  go_simp
 refine hK.out _ _ ?_
 clear hK K
 refine done_ (done_of HT_.out (by kernel_rfl)) ?_
 clear HT_ HW_
 go_wp2
 go_ret
 exact ⟨rfl, ⟨_, _, _, _, _, _, _, HL9.out⟩, HB9.out⟩
end Go.Proofs.Ytafnjlgdjhegaaa.Pr
end
section
namespace Go.Proofs.Ytafnjlgdjhegaaa.Pr
open Go.RowKit Go.Proofs.YtafnjlgdjhegaaaW.PrintWords Go.Proofs.YtafnjlgdjhegaaaW.PrintLast Go.Proofs.YtafnjlgdjhegaaaW.PrintMore Go.Proofs.YtafnjlgdjhegaaaG
set_option linter.unusedVariables false
set_option linter.unusedSimpArgs false
def arN.T1 : Bool × List (List Nat × List Nat) := (true, [([], []), ([0], [0]), ([1], [1]), ([2], [2]), ([], []), ([4], [4]), ([], []), ([6], [6]), ([], []), ([8], [8]), ([3, 5, 7, 9], [3, 5, 7, 9]), ([10], [10]), ([11], [11]), ([11], [11]), ([11], [11]), ([11], [11]), ([12, 10, 0, 1, 2, 3, 4, 5, 6, 7, 8, 9, 10, 11, 12], [12]), ([13, 16, 0, 1, 2, 3, 4, 5, 6, 7, 8, 9, 10, 11, 12, 13, 16], [13]), ([14, 17, 0, 1, 2, 3, 4, 5, 6, 7, 8, 9, 10, 11, 12, 13, 14, 16, 17], [14]), ([15, 18, 0, 1, 2, 3, 4, 5, 6, 7, 8, 9, 10, 11, 12, 13, 14, 15, 16, 17, 18], [15])])
def arN.B1 : List Nat := [0, 1, 3, 7, 0, 16, 0, 64, 0, 256, 1023, 2047, 4095, 4095, 4095, 4095, 8191, 81919, 229375, 524287]
theorem arN.tab1 : rtab .any (opsOf Try.f32 1) = arN.T1 := by kernel_rfl
theorem arN.bits1 : waitsOk arN.T1.2 arN.B1 = true := by kernel_rfl
def arN.T9 : Bool × List (List Nat × List Nat) := (true, [([], []), ([], []), ([0], [0]), ([2], [2]), ([3, 1], [1, 3]), ([4], [4]), ([], []), ([6], [6]), ([5, 7], [5, 7]), ([8], [8]), ([9], [9])])
def arN.B9 : List Nat := [0, 0, 1, 5, 15, 31, 0, 64, 255, 511, 1023]
theorem arN.tab9 : rtab .any (opsOf Try.f32 9) = arN.T9 := by kernel_rfl
theorem arN.bits9 : waitsOk arN.T9.2 arN.B9 = true := by kernel_rfl
def arN.T12 : Bool × List (List Nat × List Nat) := (true, [([], []), ([], []), ([0], [0]), ([2], [2]), ([3, 1], [1, 3]), ([4], [4]), ([], []), ([6], [6]), ([], []), ([8], [8]), ([9], [9]), ([10], [10]), ([5, 7, 0, 1, 2, 3, 4, 5, 6, 7, 8, 9, 10, 11], [5, 7]), ([12, 11, 0, 1, 2, 3, 4, 5, 6, 7, 8, 9, 10, 11], [11, 12])])
def arN.B12 : List Nat := [0, 0, 1, 5, 15, 31, 0, 64, 0, 256, 768, 1792, 4095, 8191]
theorem arN.tab12 : rtab .any (opsOf Try.f32 12) = arN.T12 := by kernel_rfl
theorem arN.bits12 : waitsOk arN.T12.2 arN.B12 = true := by kernel_rfl
def arN.T13 : Bool × List (List Nat × List Nat) := (true, [([], []), ([0], [0]), ([1], [1]), ([2], [2]), ([], []), ([4], [4]), ([], []), ([6], [6]), ([], []), ([8], [8]), ([9], [9]), ([10], [10]), ([11], [11]), ([12], [12]), ([], []), ([14], [14]), ([15], [15]), ([16], [16]), ([17], [17]), ([13, 18], [13, 18]), ([3, 5, 7, 19], [3, 5, 7, 19]), ([20], [20]), ([21], [21]), ([21], [21]), ([22, 20, 0, 1, 2, 3, 4, 5, 6, 7, 8, 9, 10, 11, 12, 13, 14, 15, 16, 17, 18, 19, 20, 21, 22], [22]), ([23, 24, 0, 1, 2, 3, 4, 5, 6, 7, 8, 9, 10, 11, 12, 13, 14, 15, 16, 17, 18, 19, 20, 21, 22, 23, 24], [23])])
def arN.B13 : List Nat := [0, 1, 3, 7, 0, 16, 0, 64, 0, 256, 768, 1792, 3840, 7936, 0, 16384, 49152, 114688, 245760, 524032, 1048575, 2097151, 4194303, 4194303, 8388607, 33554431]
theorem arN.tab13 : rtab .any (opsOf Try.f32 13) = arN.T13 := by kernel_rfl
theorem arN.bits13 : waitsOk arN.T13.2 arN.B13 = true := by kernel_rfl
def arN.T17 : Bool × List (List Nat × List Nat) := (true, [([], []), ([], []), ([1], [1]), ([2], [2]), ([3], [3]), ([], []), ([5], [5]), ([], []), ([7], [7]), ([], []), ([9], [9]), ([10], [10]), ([11], [11]), ([6, 8, 12], [6, 8, 12]), ([13], [13]), ([4, 14], [4, 14]), ([0, 0, 1, 2, 3, 4, 5, 6, 7, 8, 9, 10, 11, 12, 13, 14, 15], [0]), ([16, 0, 1, 2, 3, 4, 5, 6, 7, 8, 9, 10, 11, 12, 13, 14, 15], [16]), ([17, 15, 15, 0, 1, 2, 3, 4, 5, 6, 7, 8, 9, 10, 11, 12, 13, 14, 15], [15, 17])])
def arN.B17 : List Nat := [0, 0, 2, 6, 14, 0, 32, 0, 128, 0, 512, 1536, 3584, 8160, 16352, 32766, 65535, 131071, 262143]
theorem arN.tab17 : rtab .any (opsOf Try.f32 17) = arN.T17 := by kernel_rfl
theorem arN.bits17 : waitsOk arN.T17.2 arN.B17 = true := by kernel_rfl
def arN.T19 : Bool × List (List Nat × List Nat) := (true, [([], []), ([0], [0]), ([1], [1]), ([2], [2]), ([3], [3]), ([], []), ([5], [5]), ([6], [6]), ([7], [7]), ([4, 8], [4, 8]), ([9, 0, 1, 2, 3, 4, 5, 6, 7, 8, 9], [9])])
def arN.B19 : List Nat := [0, 1, 3, 7, 15, 0, 32, 96, 224, 511, 1023]
theorem arN.tab19 : rtab .any (opsOf Try.f32 19) = arN.T19 := by kernel_rfl
theorem arN.bits19 : waitsOk arN.T19.2 arN.B19 = true := by kernel_rfl
def arN.T20 : Bool × List (List Nat × List Nat) := (true, [([], []), ([], []), ([], []), ([1], [1]), ([3], [3]), ([4, 2], [2, 4]), ([5], [5]), ([], []), ([7], [7]), ([6, 8], [6, 8]), ([9], [9]), ([0, 10], [0, 10])])
def arN.B20 : List Nat := [0, 0, 0, 2, 10, 30, 62, 0, 128, 510, 1022, 2047]
theorem arN.tab20 : rtab .any (opsOf Try.f32 20) = arN.T20 := by kernel_rfl
theorem arN.bits20 : waitsOk arN.T20.2 arN.B20 = true := by kernel_rfl
def arN.T22 : Bool × List (List Nat × List Nat) := (true, [([], []), ([], []), ([1], [1]), ([2], [2]), ([3], [3]), ([], []), ([5], [5]), ([], []), ([7], [7]), ([], []), ([6, 8, 9], [6, 8, 9]), ([10], [10]), ([4, 11], [4, 11]), ([0, 0, 1, 2, 3, 4, 5, 6, 7, 8, 9, 10, 11, 12], [0]), ([13, 0, 1, 2, 3, 4, 5, 6, 7, 8, 9, 10, 11, 12], [13]), ([14, 12, 12, 0, 1, 2, 3, 4, 5, 6, 7, 8, 9, 10, 11, 12], [12, 14])])
def arN.B22 : List Nat := [0, 0, 2, 6, 14, 0, 32, 0, 128, 0, 992, 2016, 4094, 8191, 16383, 32767]
theorem arN.tab22 : rtab .any (opsOf Try.f32 22) = arN.T22 := by kernel_rfl
theorem arN.bits22 : waitsOk arN.T22.2 arN.B22 = true := by kernel_rfl
def arN.T24 : Bool × List (List Nat × List Nat) := (true, [([], []), ([], []), ([0], [0]), ([2], [2]), ([3, 1], [1, 3]), ([4], [4]), ([], []), ([6], [6]), ([5, 7], [5, 7]), ([8], [8]), ([9], [9]), ([10, 0, 1, 2, 3, 4, 5, 6, 7, 8, 9, 10], [10])])
def arN.B24 : List Nat := [0, 0, 1, 5, 15, 31, 0, 64, 255, 511, 1023, 2047]
theorem arN.tab24 : rtab .any (opsOf Try.f32 24) = arN.T24 := by kernel_rfl
theorem arN.bits24 : waitsOk arN.T24.2 arN.B24 = true := by kernel_rfl
theorem holdOarN {p} (h : Hd p) : p := h.out
set_option maxRecDepth 100000 in
set_option maxHeartbeats 8000000 in
theorem arrive_new (base g : Nat) (w0 w : World) (cs : Array Value) (s : Ws) (vl vt vb : Value) (vw : Nat → Value) (bd bf : Nat → Nat) (k : Nat) (r : Nat) (ak : Int) (l1 : List S44) (hk : k < 4) (h : Lay base g w cs s vl vt vb vw bd bf) (hB : Below base w0 w)
  (hr1 : 1 ≤ r) (hr2 : r ≤ 200) (hlook : session_Look.f s.l ((k : Int) + 1) (r : Int) ak = some (l1, 1, [], 0)) (m : List S44) (hd0 : s.did k (r : Int) = 0) (hdone : session_Done.f l1 ((k : Int) + 1) (r : Int) [0, s.ctr + 1] = some (m, 0)) (hc0 : 0 ≤ s.ctr) (hc1 : s.ctr ≤ 200) (hlen : s.bks.length ≤ 1000000) :
  Calls Try.prog 32 #[.pointer (some ⟨g, 0, none⟩), .agg #[.int .i64 ((k : Int) + 1), .int .i64 (r : Int), .int .i64 ak]] w fun e w' => e = .returned (.bool true) ∧ LayM base g w' { s with l := m, did := put2 s.did k (r : Int) (s.ctr + 1), bks := s.bks ++ [((k : Int) + 1, (r : Int), s.ctr + 1)], ctr := s.ctr + 1 } ∧ Below base w0 w' := by
 have HL := hd h
 have HB := hd hB
 have HLK := hd hlook
 have hk4 : (k : Int) < 4 := by omega
 have hr250 : (r : Int) < 250 := by omega
 have hr0 : (0 : Int) ≤ (r : Int) := by omega
 have hu62 := Try.underlying62
 have hu65 := Try.underlying65
 have hu67 := Try.underlying67
 have hu72 := Try.underlying72
 have hu75 := Try.underlying75
 obtain ⟨A, c, hvl, hcc, hC⟩ := h.ol.reads
 have HC := hd hC
 have HZ := hd hd0
 have HDN := hd hdone
 clear hd0 hdone
 clear h hB hC hlook
 go_enter Try.func32, Try.ntmps32
 go_wp2_with (((with_reducible refine gate_dst (N := 3) rfl ?_); refine box_event ?hg (N := 3) ?hd (cs := #[.int .i64 ((k : Int) + 1), .int .i64 (r : Int), .int .i64 ak]) (t := 72) ?hr ?_; (case hd => rfl); (case hg => rfl); (case hr => first | (go_simp; done) | (go_simp; rfl)); intro gx hg w1 hbox hb; have HX := hd hbox; replace HC := hd (Kd.C_below HC.out hb); replace HB : Hd (Below base w0 w1) := hd (below_then HB.out HL.out.bs hb); replace HL := hd (HL.out.below hb); clear hg hbox hb; refine holdOarN ?_))
 refine ⟨?_⟩
 go_wp2_with fail
 refine start_ (n := 20) (S := fun w' => w'.heap[g]? = some (.cells cs 67 (0, 0)) ∧ w'.heap[gx]? = some (.cells #[.int .i64 ((k : Int) + 1), .int .i64 (r : Int), .int .i64 ak] 72 (0, 0))) (ds := []) knceA97 (by kernel_rfl) rfl rfl ⟨HL.out.hg, HX.out⟩ (fun hHeld => ?_)
 refine with_tabW arN.tab1 arN.bits1 (fun HT_ HW_ => ?_)
 have HL0 := HL
 have HL : Hd (Lay base g w1.drew _ _ _ _ _ _ _ _) := hd (HL0.out.below (below_drew1 (Below.refl _ _)))
 have HB0 := HB
 have HB : Hd (Below base w0 w1.drew) := hd (below_drew1 HB0.out)
 have HX0 := HX
 have HX : Hd (w1.drew.heap[gx]? = _) := hd HX0.out
 have HC0 := HC
 have HC : Hd (Kd.C k44 w1.drew A s.l.length s.l) := hd (Kd.C_below HC0.out (below_drew1 (Below.refl _ _)))
 clear HC0 HL0 HB0 HX0
 generalize w1.drew = w2 at HL HB HX HC hHeld ⊢
 refine pure_ (i := 0) (N := (some 14)) (v := ?_) (a' := ?_) knceA96 rfl rfl (any_of HT_.out (by kernel_rfl)) (fun _ _ _ h => h) (Or.inl ⟨by rfl, ?_⟩) ?_ ?_
 rotate_left
 ·intro w'
  go_simp
  with_reducible rfl
 rotate_left
 ·simp only [Act.put, List.setIfInBounds_toArray, List.set_cons_zero, List.set_cons_succ, i64_w, i32_w]
  rfl
 refine pure_ (i := 1) (N := (some 15)) (v := ?_) (a' := ?_) knceA95 rfl rfl (any_of HT_.out (by kernel_rfl)) (fun _ _ _ h => h) (Or.inl ⟨by rfl, ?_⟩) ?_ ?_
 rotate_left
 ·intro w'
  go_simp
  with_reducible rfl
 rotate_left
 ·simp only [Act.put, List.setIfInBounds_toArray, List.set_cons_zero, List.set_cons_succ, i64_w, i32_w]
  rfl
 refine pure_ (i := 2) (N := (some 16)) (v := ?_) (a' := ?_) knceA94 rfl rfl (any_of HT_.out (by kernel_rfl)) (fun _ _ _ h => h) (Or.inl ⟨by rfl, ?_⟩) ?_ ?_
 rotate_left
 ·intro w'
  go_simp
  with_reducible rfl
 rotate_left
 ·simp only [Act.put, List.setIfInBounds_toArray, List.set_cons_zero, List.set_cons_succ, i64_w, i32_w]
  rfl
 refine take_ (i := 3) (N := (some 17)) (v := ?_) (a' := ?_) knceA93 rfl rfl (take_ofW HT_.out HW_.out (by kernel_rfl)) (fun _ _ _ h => h) (Or.inl ⟨by rfl, ?_⟩) hHeld ?_ ?_
 rotate_left
 ·rintro w' ⟨s0, s1⟩
  have d0 := (blk_cell s0 0).trans (HL.out.cells.c0.trans (congrArg some hvl))
  go_simp
  with_reducible rfl
 rotate_left
 ·simp only [Act.put, List.setIfInBounds_toArray, List.set_cons_zero, List.set_cons_succ, i64_w, i32_w]
  rfl
 refine pure_ (i := 4) (N := (some 18)) (v := ?_) (a' := ?_) knceA92 rfl rfl (any_of HT_.out (by kernel_rfl)) (fun _ _ _ h => h) (Or.inl ⟨by rfl, ?_⟩) ?_ ?_
 rotate_left
 ·intro w'
  go_simp
  with_reducible rfl
 rotate_left
 ·simp only [Act.put, List.setIfInBounds_toArray, List.set_cons_zero, List.set_cons_succ, i64_w, i32_w]
  rfl
 refine take_ (i := 5) (N := (some 19)) (v := ?_) (a' := ?_) knceA91 rfl rfl (take_ofW HT_.out HW_.out (by kernel_rfl)) (fun _ _ _ h => h) (Or.inl ⟨by rfl, ?_⟩) hHeld ?_ ?_
 rotate_left
 ·rintro w' ⟨s0, s1⟩
  have e0 := (blk_cell s1 0).trans rfl
  have e1 := (blk_cell s1 1).trans rfl
  have e2 := (blk_cell s1 2).trans rfl
  go_simp
  with_reducible rfl
 rotate_left
 ·simp only [Act.put, List.setIfInBounds_toArray, List.set_cons_zero, List.set_cons_succ, i64_w, i32_w]
  rfl
 refine pure_ (i := 6) (N := (some 20)) (v := ?_) (a' := ?_) knceA89 rfl rfl (any_of HT_.out (by kernel_rfl)) (fun _ _ _ h => h) (Or.inl ⟨by rfl, ?_⟩) ?_ ?_
 rotate_left
 ·intro w'
  go_simp
  with_reducible rfl
 rotate_left
 ·simp only [Act.put, List.setIfInBounds_toArray, List.set_cons_zero, List.set_cons_succ, i64_w, i32_w]
  rfl
 refine take_ (i := 7) (N := (some 21)) (v := ?_) (a' := ?_) knceA87 rfl rfl (take_ofW HT_.out HW_.out (by kernel_rfl)) (fun _ _ _ h => h) (Or.inl ⟨by rfl, ?_⟩) hHeld ?_ ?_
 rotate_left
 ·rintro w' ⟨s0, s1⟩
  have e0 := (blk_cell s1 0).trans rfl
  have e1 := (blk_cell s1 1).trans rfl
  have e2 := (blk_cell s1 2).trans rfl
  go_simp
  with_reducible rfl
 rotate_left
 ·simp only [Act.put, List.setIfInBounds_toArray, List.set_cons_zero, List.set_cons_succ, i64_w, i32_w]
  rfl
 refine pure_ (i := 8) (N := (some 22)) (v := ?_) (a' := ?_) knceA85 rfl rfl (any_of HT_.out (by kernel_rfl)) (fun _ _ _ h => h) (Or.inl ⟨by rfl, ?_⟩) ?_ ?_
 rotate_left
 ·intro w'
  go_simp
  with_reducible rfl
 rotate_left
 ·simp only [Act.put, List.setIfInBounds_toArray, List.set_cons_zero, List.set_cons_succ, i64_w, i32_w]
  rfl
 refine take_ (i := 9) (N := (some 23)) (v := ?_) (a' := ?_) knceA83 rfl rfl (take_ofW HT_.out HW_.out (by kernel_rfl)) (fun _ _ _ h => h) (Or.inl ⟨by rfl, ?_⟩) hHeld ?_ ?_
 rotate_left
 ·rintro w' ⟨s0, s1⟩
  have e0 := (blk_cell s1 0).trans rfl
  have e1 := (blk_cell s1 1).trans rfl
  have e2 := (blk_cell s1 2).trans rfl
  go_simp
  with_reducible rfl
 rotate_left
 ·simp only [Act.put, List.setIfInBounds_toArray, List.set_cons_zero, List.set_cons_succ, i64_w, i32_w]
  rfl
 refine one_ (i := 10) (N := (some 24)) knceA81 rfl rfl (one_of HT_.out (by kernel_rfl)) (by decide) (fun K hK => ?_)
 refine goes_ Try.func10 (by kernel_rfl) rfl #[.slice A s.l.length c, .int .i64 ((k : Int) + 1), .int .i64 (r : Int), .int .i64 ak] (by rfl) rfl rfl (by (try simp only [List.map_toArray, List.map_cons, List.map_nil]); first | done | rfl) ?_
 refine (session_Look.calls A c s.l ((k : Int) + 1) (r : Int) ak l1 1 [] 0 w2 HC.out hcc HLK.out).mono ?_
 rintro e w3 ⟨v0, v2, rfl, hR0, hR2, b⟩
 refine ⟨_, rfl, ?_⟩
 have HO1 : Hd (Own k44 44 base w3 v0 l1) := hd (Own.of hR0 HL.out.bs)
 have HREP : Hd (Own (Kd.int .u8) 5 base w3 v2 []) := hd (Own.of hR2 HL.out.bs)
 obtain ⟨A0, c0, rfl, _, _⟩ := Kd.R_reads hR0
 obtain ⟨A2, c2, rfl, _, _⟩ := Kd.R_reads hR2
 replace HB : Hd (Below base w0 w3) := hd (below_then HB.out HL.out.bs b)
 replace HL := hd (HL.out.below b)
 replace HX := hd (blk_below HX.out b)
 refine hK.out _ _ ⟨HL.out.hg, HX.out⟩ (fun hHeld => ?_)
 clear hK K b hR0 hR2 HC
 refine norm_ (a' := ?_) ?_ ?_
 rotate_left
 ·show Act.put _ (some 24) _ = _
  simp only [Act.put, List.setIfInBounds_toArray, List.set_cons_zero, List.set_cons_succ, i64_w, i32_w]
  rfl
 refine pure_ (i := 11) (N := (some 13)) (v := ?_) (a' := ?_) knceA79 rfl rfl (any_of HT_.out (by kernel_rfl)) (fun _ _ _ h => h) (Or.inl ⟨by rfl, ?_⟩) ?_ ?_
 rotate_left
 ·intro w'
  go_simp
  with_reducible rfl
 rotate_left
 ·simp only [Act.put, List.setIfInBounds_toArray, List.set_cons_zero, List.set_cons_succ, i64_w, i32_w]
  rfl
 refine pure_ (i := 12) (N := (some 25)) (v := ?_) (a' := ?_) knceA77 rfl rfl (any_of HT_.out (by kernel_rfl)) (fun _ _ _ h => h) (Or.inl ⟨by rfl, ?_⟩) ?_ ?_
 rotate_left
 ·intro w'
  go_simp
  with_reducible rfl
 rotate_left
 ·simp only [Act.put, List.setIfInBounds_toArray, List.set_cons_zero, List.set_cons_succ, i64_w, i32_w]
  rfl
 refine pure_ (i := 13) (N := (some 26)) (v := ?_) (a' := ?_) knceA75 rfl rfl (any_of HT_.out (by kernel_rfl)) (fun _ _ _ h => h) (Or.inl ⟨by rfl, ?_⟩) ?_ ?_
 rotate_left
 ·intro w'
  go_simp
  with_reducible rfl
 rotate_left
 ·simp only [Act.put, List.setIfInBounds_toArray, List.set_cons_zero, List.set_cons_succ, i64_w, i32_w]
  rfl
 refine pure_ (i := 14) (N := (some 27)) (v := ?_) (a' := ?_) knceA73 rfl rfl (any_of HT_.out (by kernel_rfl)) (fun _ _ _ h => h) (Or.inl ⟨by rfl, ?_⟩) ?_ ?_
 rotate_left
 ·intro w'
  go_simp
  with_reducible rfl
 rotate_left
 ·simp only [Act.put, List.setIfInBounds_toArray, List.set_cons_zero, List.set_cons_succ, i64_w, i32_w]
  rfl
 refine pure_ (i := 15) (N := (some 28)) (v := ?_) (a' := ?_) knceA71 rfl rfl (any_of HT_.out (by kernel_rfl)) (fun _ _ _ h => h) (Or.inl ⟨by rfl, ?_⟩) ?_ ?_
 rotate_left
 ·intro w'
  go_simp
  with_reducible rfl
 rotate_left
 ·simp only [Act.put, List.setIfInBounds_toArray, List.set_cons_zero, List.set_cons_succ, i64_w, i32_w]
  rfl
 refine pure_ (i := 16) (N := (some 5)) (v := ?_) (a' := ?_) knceA69 rfl rfl (any_of HT_.out (by kernel_rfl)) (fun _ _ _ h => h) (Or.inl ⟨by rfl, ?_⟩) ?_ ?_
 rotate_left
 ·intro w'
  go_simp
  with_reducible rfl
 rotate_left
 ·simp only [Act.put, List.setIfInBounds_toArray, List.set_cons_zero, List.set_cons_succ, i64_w, i32_w]
  rfl
 refine pure_ (i := 17) (N := (some 6)) (v := ?_) (a' := ?_) knceA67 rfl rfl (any_of HT_.out (by kernel_rfl)) (fun _ _ _ h => h) (Or.inl ⟨by rfl, ?_⟩) ?_ ?_
 rotate_left
 ·intro w'
  go_simp
  with_reducible rfl
 rotate_left
 ·simp only [Act.put, List.setIfInBounds_toArray, List.set_cons_zero, List.set_cons_succ, i64_w, i32_w]
  rfl
 refine pure_ (i := 18) (N := (some 7)) (v := ?_) (a' := ?_) knceA65 rfl rfl (any_of HT_.out (by kernel_rfl)) (fun _ _ _ h => h) (Or.inl ⟨by rfl, ?_⟩) ?_ ?_
 rotate_left
 ·intro w'
  go_simp
  with_reducible rfl
 rotate_left
 ·simp only [Act.put, List.setIfInBounds_toArray, List.set_cons_zero, List.set_cons_succ, i64_w, i32_w]
  rfl
 refine pure_ (i := 19) (N := (some 8)) (v := ?_) (a' := ?_) knceA63 rfl rfl (any_of HT_.out (by kernel_rfl)) (fun _ _ _ h => h) (Or.inl ⟨by rfl, ?_⟩) ?_ ?_
 rotate_left
 ·intro w'
  go_simp
  with_reducible rfl
 rotate_left
 ·simp only [Act.put, List.setIfInBounds_toArray, List.set_cons_zero, List.set_cons_succ, i64_w, i32_w]
  rfl
 refine done_ (done_of HT_.out (by kernel_rfl)) ?_
 clear HT_ HW_
 have e0 := (blk_cell HX.out 0).trans rfl
 go_wp2_with ((with_reducible refine gate_store (t := 22) (p := 37) rfl ?_); refine wpList_store1 rfl 22 (.tmp 37) (.tmp 35) rfl g 0 (.slice A0 l1.length c0) rfl rfl ?hrun ?_; (case hrun => (have c_ := (blk_cell HL.out.hg 0).trans HL.out.cells.c0; have f_ := blk_frozen HL.out.hg 0; go_simp; first | done | rfl)); refine holdOarN ?_)
 refine ⟨?_⟩
 clear e0
 have T4 := turn_set (j := 0) HL.out.hg HL.out.gb (.slice A0 l1.length c0)
 have HL4 := hd (HL.out.put_l HO1.out)
 replace HB := hd (HB.out.trans T4.below)
 replace HX := hd (T4.keep _ _ _ HX.out (by decide))
 replace HREP := hd (HREP.out.turn T4 (by decide))
 clear HL T4 HO1 hcc hvl
 have HL := HL4
 clear HL4
 generalize World.setCell _ _ _ = w4 at HL HB HX HREP ⊢
 clear HREP
 go_wp2_with fail
 refine start_ (n := 11) (S := fun w' => w'.heap[g]? = some (.cells (cs.setIfInBounds 0 (.slice A0 l1.length c0)) 67 (0, 0)) ∧ w'.heap[gx]? = some (.cells #[.int .i64 ((k : Int) + 1), .int .i64 (r : Int), .int .i64 ak] 72 (0, 0)) ∧ w'.heap[bd k]? = some (.cells (row250 (s.did k)) 3 (0, 0))) (ds := []) knceA17 (by kernel_rfl) rfl rfl ⟨HL.out.hg, HX.out, (HL.out.od k hk).2⟩ (fun hHeld => ?_)
 refine with_tabW arN.tab9 arN.bits9 (fun HT_ HW_ => ?_)
 have HL0 := HL
 have HL : Hd (Lay base g w4.drew _ _ _ _ _ _ _ _) := hd (HL0.out.below (below_drew1 (Below.refl _ _)))
 have HB0 := HB
 have HB : Hd (Below base w0 w4.drew) := hd (below_drew1 HB0.out)
 have HX0 := HX
 have HX : Hd (w4.drew.heap[gx]? = _) := hd HX0.out
 clear HL0 HB0 HX0
 generalize w4.drew = w5 at HL HB HX hHeld ⊢
 refine pure_ (i := 0) (N := (some 41)) (v := ?_) (a' := ?_) knceA15 rfl rfl (any_of HT_.out (by kernel_rfl)) (fun _ _ _ h => h) (Or.inl ⟨by rfl, ?_⟩) ?_ ?_
 rotate_left
 ·intro w'
  go_simp
  with_reducible rfl
 rotate_left
 ·simp only [Act.put, List.setIfInBounds_toArray, List.set_cons_zero, List.set_cons_succ, i64_w, i32_w]
  rfl
 refine pure_ (i := 1) (N := (some 42)) (v := ?_) (a' := ?_) knceA13 rfl rfl (any_of HT_.out (by kernel_rfl)) (fun _ _ _ h => h) (Or.inl ⟨by rfl, ?_⟩) ?_ ?_
 rotate_left
 ·intro w'
  go_simp
  with_reducible rfl
 rotate_left
 ·simp only [Act.put, List.setIfInBounds_toArray, List.set_cons_zero, List.set_cons_succ, i64_w, i32_w]
  rfl
 refine pure_ (i := 2) (N := (some 43)) (v := ?_) (a' := ?_) knceA11 rfl rfl (any_of HT_.out (by kernel_rfl)) (fun _ _ _ h => h) (Or.inl ⟨by rfl, ?_⟩) ?_ ?_
 rotate_left
 ·intro w'
  go_simp
  with_reducible rfl
 rotate_left
 ·simp only [Act.put, List.setIfInBounds_toArray, List.set_cons_zero, List.set_cons_succ, i64_w, i32_w]
  rfl
 refine pure_ (i := 3) (N := (some 44)) (v := ?_) (a' := ?_) knceA9 rfl rfl (any_of HT_.out (by kernel_rfl)) (fun _ _ _ h => h) (Or.inl ⟨by rfl, ?_⟩) ?_ ?_
 rotate_left
 ·intro w'
  go_simp
  with_reducible rfl
 rotate_left
 ·simp only [Act.put, List.setIfInBounds_toArray, List.set_cons_zero, List.set_cons_succ, i64_w, i32_w]
  rfl
 refine pure_ (i := 4) (N := (some 45)) (v := ?_) (a' := ?_) knceA7 rfl rfl (any_of HT_.out (by kernel_rfl)) (fun _ _ _ h => h) (Or.inl ⟨by rfl, ?_⟩) ?_ ?_
 rotate_left
 ·intro w'
  go_simp
  with_reducible rfl
 rotate_left
 ·simp only [Act.put, List.setIfInBounds_toArray, List.set_cons_zero, List.set_cons_succ, i64_w, i32_w]
  rfl
 refine take_ (i := 5) (N := (some 46)) (v := ?_) (a' := ?_) knceA5 rfl rfl (take_ofW HT_.out HW_.out (by kernel_rfl)) (fun _ _ _ h => h) (Or.inl ⟨by rfl, ?_⟩) hHeld ?_ ?_
 rotate_left
 ·rintro w' ⟨s0, s1, s2⟩
  have f0 := (blk_cell s0 (19 + k)).trans (HL.out.cells.cd k hk)
  unfold arrC at f0
  go_simp
  with_reducible rfl
 rotate_left
 ·simp only [Act.put, List.setIfInBounds_toArray, List.set_cons_zero, List.set_cons_succ, i64_w, i32_w]
  rfl
 refine pure_ (i := 6) (N := (some 47)) (v := ?_) (a' := ?_) knceA4 rfl rfl (any_of HT_.out (by kernel_rfl)) (fun _ _ _ h => h) (Or.inl ⟨by rfl, ?_⟩) ?_ ?_
 rotate_left
 ·intro w'
  go_simp
  with_reducible rfl
 rotate_left
 ·simp only [Act.put, List.setIfInBounds_toArray, List.set_cons_zero, List.set_cons_succ, i64_w, i32_w]
  rfl
 refine take_ (i := 7) (N := (some 48)) (v := ?_) (a' := ?_) knceA3 rfl rfl (take_ofW HT_.out HW_.out (by kernel_rfl)) (fun _ _ _ h => h) (Or.inl ⟨by rfl, ?_⟩) hHeld ?_ ?_
 rotate_left
 ·rintro w' ⟨s0, s1, s2⟩
  have e0 := (blk_cell s1 0).trans rfl
  have e1 := (blk_cell s1 1).trans rfl
  have e2 := (blk_cell s1 2).trans rfl
  go_simp
  with_reducible rfl
 rotate_left
 ·simp only [Act.put, List.setIfInBounds_toArray, List.set_cons_zero, List.set_cons_succ, i64_w, i32_w]
  rfl
 refine pure_ (i := 8) (N := (some 49)) (v := ?_) (a' := ?_) knceA2 rfl rfl (any_of HT_.out (by kernel_rfl)) (fun _ _ _ h => h) (Or.inl ⟨by rfl, ?_⟩) ?_ ?_
 rotate_left
 ·intro w'
  go_simp
  with_reducible rfl
 rotate_left
 ·simp only [Act.put, List.setIfInBounds_toArray, List.set_cons_zero, List.set_cons_succ, i64_w, i32_w]
  rfl
 refine take_ (i := 9) (N := (some 50)) (v := ?_) (a' := ?_) knceA1 rfl rfl (take_ofW HT_.out HW_.out (by kernel_rfl)) (fun _ _ _ h => h) (Or.inl ⟨by rfl, ?_⟩) hHeld ?_ ?_
 rotate_left
 ·rintro w' ⟨s0, s1, s2⟩
  have f1 := (blk_cell s2 r).trans (row250_at _ r (by omega))
  rw [HZ.out] at f1
  go_simp
  with_reducible rfl
 rotate_left
 ·simp only [Act.put, List.setIfInBounds_toArray, List.set_cons_zero, List.set_cons_succ, i64_w, i32_w]
  rfl
 refine pure_ (i := 10) (N := (some 51)) (v := ?_) (a' := ?_) knceA0 rfl rfl (any_of HT_.out (by kernel_rfl)) (fun _ _ _ h => h) (Or.inl ⟨by rfl, ?_⟩) ?_ ?_
 rotate_left
 ·intro w'
  go_simp
  with_reducible rfl
 rotate_left
 ·simp only [Act.put, List.setIfInBounds_toArray, List.set_cons_zero, List.set_cons_succ, i64_w, i32_w]
  rfl
 refine done_ (done_of HT_.out (by kernel_rfl)) ?_
 clear HT_ HW_
 have d27 := (blk_cell HL.out.hg 27).trans HL.out.cells.cc
 go_wp2_with ((with_reducible refine gate_store (t := 3) (p := 58) rfl ?_); refine wpList_store1 rfl 3 (.tmp 58) (.tmp 56) rfl g 27 (.int .i64 (s.ctr + 1)) rfl rfl ?hrun ?_; (case hrun => (have c_ := (blk_cell HL.out.hg 27).trans HL.out.cells.cc; have f_ := blk_frozen HL.out.hg 27; go_simp; first | done | rfl)); refine holdOarN ?_)
 refine ⟨?_⟩
 clear d27
 have T6 := turn_set (j := 27) HL.out.hg HL.out.gb (.int .i64 (s.ctr + 1))
 have HL6 := hd (HL.out.put_c (s.ctr + 1))
 replace HB := hd (HB.out.trans T6.below)
 replace HX := hd (T6.keep _ _ _ HX.out (by decide))
 clear HL T6
 have HL := HL6
 clear HL6
 generalize World.setCell _ _ _ = w6 at HL HB HX ⊢
 go_wp2_with fail
 refine start_ (n := 14) (S := fun w' => w'.heap[g]? = some (.cells ((cs.setIfInBounds 0 (.slice A0 l1.length c0)).setIfInBounds 27 (.int .i64 (s.ctr + 1))) 67 (0, 0)) ∧ w'.heap[gx]? = some (.cells #[.int .i64 ((k : Int) + 1), .int .i64 (r : Int), .int .i64 ak] 72 (0, 0)) ∧ w'.heap[bd k]? = some (.cells (row250 (s.did k)) 3 (0, 0))) (ds := [13]) #[false, false, false, false, false, false, false, false, false, false, false, false, false, false] (by kernel_rfl) rfl rfl ⟨HL.out.hg, HX.out, (HL.out.od k hk).2⟩ (fun hHeld => ?_)
 refine with_tabW arN.tab12 arN.bits12 (fun HT_ HW_ => ?_)
 have HL0 := HL
 have HL : Hd (Lay base g w6.drew _ _ _ _ _ _ _ _) := hd (HL0.out.below (below_drew1 (Below.refl _ _)))
 have HB0 := HB
 have HB : Hd (Below base w0 w6.drew) := hd (below_drew1 HB0.out)
 have HX0 := HX
 have HX : Hd (w6.drew.heap[gx]? = _) := hd HX0.out
 clear HL0 HB0 HX0
 generalize w6.drew = w7 at HL HB HX hHeld ⊢
 refine pure_ (i := 0) (N := (some 59)) (v := ?_) (a' := ?_) #[true, false, false, false, false, false, false, false, false, false, false, false, false, false] rfl rfl (any_of HT_.out (by kernel_rfl)) (fun _ _ _ h => h) (Or.inl ⟨by rfl, ?_⟩) ?_ ?_
 rotate_left
 ·intro w'
  go_simp
  with_reducible rfl
 rotate_left
 ·simp only [Act.put, List.setIfInBounds_toArray, List.set_cons_zero, List.set_cons_succ, i64_w, i32_w]
  rfl
 refine pure_ (i := 1) (N := (some 60)) (v := ?_) (a' := ?_) #[true, true, false, false, false, false, false, false, false, false, false, false, false, false] rfl rfl (any_of HT_.out (by kernel_rfl)) (fun _ _ _ h => h) (Or.inl ⟨by rfl, ?_⟩) ?_ ?_
 rotate_left
 ·intro w'
  go_simp
  with_reducible rfl
 rotate_left
 ·simp only [Act.put, List.setIfInBounds_toArray, List.set_cons_zero, List.set_cons_succ, i64_w, i32_w]
  rfl
 refine pure_ (i := 2) (N := (some 61)) (v := ?_) (a' := ?_) #[true, true, true, false, false, false, false, false, false, false, false, false, false, false] rfl rfl (any_of HT_.out (by kernel_rfl)) (fun _ _ _ h => h) (Or.inl ⟨by rfl, ?_⟩) ?_ ?_
 rotate_left
 ·intro w'
  go_simp
  with_reducible rfl
 rotate_left
 ·simp only [Act.put, List.setIfInBounds_toArray, List.set_cons_zero, List.set_cons_succ, i64_w, i32_w]
  rfl
 refine pure_ (i := 3) (N := (some 62)) (v := ?_) (a' := ?_) #[true, true, true, true, false, false, false, false, false, false, false, false, false, false] rfl rfl (any_of HT_.out (by kernel_rfl)) (fun _ _ _ h => h) (Or.inl ⟨by rfl, ?_⟩) ?_ ?_
 rotate_left
 ·intro w'
  go_simp
  with_reducible rfl
 rotate_left
 ·simp only [Act.put, List.setIfInBounds_toArray, List.set_cons_zero, List.set_cons_succ, i64_w, i32_w]
  rfl
 refine pure_ (i := 4) (N := (some 63)) (v := ?_) (a' := ?_) #[true, true, true, true, true, false, false, false, false, false, false, false, false, false] rfl rfl (any_of HT_.out (by kernel_rfl)) (fun _ _ _ h => h) (Or.inl ⟨by rfl, ?_⟩) ?_ ?_
 rotate_left
 ·intro w'
  go_simp
  with_reducible rfl
 rotate_left
 ·simp only [Act.put, List.setIfInBounds_toArray, List.set_cons_zero, List.set_cons_succ, i64_w, i32_w]
  rfl
 refine take_ (i := 5) (N := (some 64)) (v := ?_) (a' := ?_) #[true, true, true, true, true, true, false, false, false, false, false, false, false, false] rfl rfl (take_ofW HT_.out HW_.out (by kernel_rfl)) (fun _ _ _ h => h) (Or.inl ⟨by rfl, ?_⟩) hHeld ?_ ?_
 rotate_left
 ·rintro w' ⟨s0, s1, s2⟩
  have f0 := (blk_cell s0 (19 + k)).trans (HL.out.cells.cd k hk)
  unfold arrC at f0
  go_simp
  with_reducible rfl
 rotate_left
 ·simp only [Act.put, List.setIfInBounds_toArray, List.set_cons_zero, List.set_cons_succ, i64_w, i32_w]
  rfl
 refine pure_ (i := 6) (N := (some 65)) (v := ?_) (a' := ?_) #[true, true, true, true, true, true, true, false, false, false, false, false, false, false] rfl rfl (any_of HT_.out (by kernel_rfl)) (fun _ _ _ h => h) (Or.inl ⟨by rfl, ?_⟩) ?_ ?_
 rotate_left
 ·intro w'
  go_simp
  with_reducible rfl
 rotate_left
 ·simp only [Act.put, List.setIfInBounds_toArray, List.set_cons_zero, List.set_cons_succ, i64_w, i32_w]
  rfl
 refine take_ (i := 7) (N := (some 66)) (v := ?_) (a' := ?_) #[true, true, true, true, true, true, true, true, false, false, false, false, false, false] rfl rfl (take_ofW HT_.out HW_.out (by kernel_rfl)) (fun _ _ _ h => h) (Or.inl ⟨by rfl, ?_⟩) hHeld ?_ ?_
 rotate_left
 ·rintro w' ⟨s0, s1, s2⟩
  have e0 := (blk_cell s1 0).trans rfl
  have e1 := (blk_cell s1 1).trans rfl
  have e2 := (blk_cell s1 2).trans rfl
  go_simp
  with_reducible rfl
 rotate_left
 ·simp only [Act.put, List.setIfInBounds_toArray, List.set_cons_zero, List.set_cons_succ, i64_w, i32_w]
  rfl
 refine pure_ (i := 8) (N := (some 67)) (v := ?_) (a' := ?_) #[true, true, true, true, true, true, true, true, true, false, false, false, false, false] rfl rfl (any_of HT_.out (by kernel_rfl)) (fun _ _ _ h => h) (Or.inl ⟨by rfl, ?_⟩) ?_ ?_
 rotate_left
 ·intro w'
  go_simp
  with_reducible rfl
 rotate_left
 ·simp only [Act.put, List.setIfInBounds_toArray, List.set_cons_zero, List.set_cons_succ, i64_w, i32_w]
  rfl
 refine pure_ (i := 9) (N := (some 68)) (v := ?_) (a' := ?_) #[true, true, true, true, true, true, true, true, true, true, false, false, false, false] rfl rfl (any_of HT_.out (by kernel_rfl)) (fun _ _ _ h => h) (Or.inl ⟨by rfl, ?_⟩) ?_ ?_
 rotate_left
 ·intro w'
  go_simp
  with_reducible rfl
 rotate_left
 ·simp only [Act.put, List.setIfInBounds_toArray, List.set_cons_zero, List.set_cons_succ, i64_w, i32_w]
  rfl
 refine pure_ (i := 10) (N := (some 69)) (v := ?_) (a' := ?_) #[true, true, true, true, true, true, true, true, true, true, true, false, false, false] rfl rfl (any_of HT_.out (by kernel_rfl)) (fun _ _ _ h => h) (Or.inl ⟨by rfl, ?_⟩) ?_ ?_
 rotate_left
 ·intro w'
  go_simp
  with_reducible rfl
 rotate_left
 ·simp only [Act.put, List.setIfInBounds_toArray, List.set_cons_zero, List.set_cons_succ, i64_w, i32_w]
  rfl
 refine take_ (i := 11) (N := (some 70)) (v := ?_) (a' := ?_) #[true, true, true, true, true, true, true, true, true, true, true, true, false, false] rfl rfl (take_ofW HT_.out HW_.out (by kernel_rfl)) (fun _ _ _ h => h) (Or.inl ⟨by rfl, ?_⟩) hHeld ?_ ?_
 rotate_left
 ·rintro w' ⟨s0, s1, s2⟩
  have d27 := (blk_cell s0 27).trans HL.out.cells.cc
  go_simp
  with_reducible rfl
 rotate_left
 ·simp only [Act.put, List.setIfInBounds_toArray, List.set_cons_zero, List.set_cons_succ, i64_w, i32_w]
  rfl
 refine pure_ (i := 12) (N := (some 71)) (v := ?_) (a' := ?_) #[true, true, true, true, true, true, true, true, true, true, true, true, true, false] rfl rfl (any_of HT_.out (by kernel_rfl)) (fun _ _ _ h => h) (Or.inl ⟨by rfl, ?_⟩) ?_ ?_
 rotate_left
 ·intro w'
  go_simp
  with_reducible rfl
 rotate_left
 ·simp only [Act.put, List.setIfInBounds_toArray, List.set_cons_zero, List.set_cons_succ, i64_w, i32_w]
  rfl
 refine last_ (i := 13) (N := none) #[true, true, true, true, true, true, true, true, true, true, true, true, true, true] rfl rfl (one_of HT_.out (by kernel_rfl)) (by decide) (fun K hK => ?_)
 have cf := (blk_cell (HL.out.od k hk).2 r).trans (row250_at _ r (by omega))
 have ff := blk_frozen (HL.out.od k hk).2 r
 refine skip_ (w1 := w7.setCell ⟨bd k, r, none⟩ (.int .i64 (s.ctr + 1))) (by rfl) rfl ?_ ?_
 ·go_simp
 have T7 := turn_set (j := r) (HL.out.od k hk).2 (HL.out.od k hk).1 (.int .i64 (s.ctr + 1))
 have HL8 := hd (HL.out.put_d hk r (s.ctr + 1))
 replace HB := hd (HB.out.trans T7.below)
 replace HX := hd (T7.keep _ _ _ HX.out (by decide))
 refine hK.out _ _ ?_
 clear hK K T7 HL hHeld
 have HL := HL8
 clear HL8
 dsimp only at HL
 generalize World.setCell _ _ _ = w8 at HL HB HX ⊢
 refine done_ (done_of HT_.out (by kernel_rfl)) ?_
 clear HT_ HW_
 go_wp2_with fail
 refine start_ (n := 26) (S := fun w' => w'.heap[g]? = some (.cells ((cs.setIfInBounds 0 (.slice A0 l1.length c0)).setIfInBounds 27 (.int .i64 (s.ctr + 1))) 67 (0, 0)) ∧ w'.heap[gx]? = some (.cells #[.int .i64 ((k : Int) + 1), .int .i64 (r : Int), .int .i64 ak] 72 (0, 0))) (ds := []) knceA124 (by kernel_rfl) rfl rfl ⟨HL.out.hg, HX.out⟩ (fun hHeld => ?_)
 refine with_tabW arN.tab13 arN.bits13 (fun HT_ HW_ => ?_)
 have HL0 := HL
 have HL : Hd (Lay base g w8.drew _ _ _ _ _ _ _ _) := hd (HL0.out.below (below_drew1 (Below.refl _ _)))
 have HB0 := HB
 have HB : Hd (Below base w0 w8.drew) := hd (below_drew1 HB0.out)
 have HX0 := HX
 have HX : Hd (w8.drew.heap[gx]? = _) := hd HX0.out
 obtain ⟨A0', c0', he0, hcc, hC1⟩ := HL.out.ol.reads
 injection he0 with he1 _ he3
 subst he1
 subst he3
 have HC1 := hd hC1
 have HCC := hd hcc
 clear hC1 hcc HL0 HB0 HX0
 generalize w8.drew = w9 at HL HB HX HC1 hHeld ⊢
 refine pure_ (i := 0) (N := (some 73)) (v := ?_) (a' := ?_) knceA123 rfl rfl (any_of HT_.out (by kernel_rfl)) (fun _ _ _ h => h) (Or.inl ⟨by rfl, ?_⟩) ?_ ?_
 rotate_left
 ·intro w'
  go_simp
  with_reducible rfl
 rotate_left
 ·simp only [Act.put, List.setIfInBounds_toArray, List.set_cons_zero, List.set_cons_succ, i64_w, i32_w]
  rfl
 refine pure_ (i := 1) (N := (some 74)) (v := ?_) (a' := ?_) knceA122 rfl rfl (any_of HT_.out (by kernel_rfl)) (fun _ _ _ h => h) (Or.inl ⟨by rfl, ?_⟩) ?_ ?_
 rotate_left
 ·intro w'
  go_simp
  with_reducible rfl
 rotate_left
 ·simp only [Act.put, List.setIfInBounds_toArray, List.set_cons_zero, List.set_cons_succ, i64_w, i32_w]
  rfl
 refine pure_ (i := 2) (N := (some 75)) (v := ?_) (a' := ?_) knceA121 rfl rfl (any_of HT_.out (by kernel_rfl)) (fun _ _ _ h => h) (Or.inl ⟨by rfl, ?_⟩) ?_ ?_
 rotate_left
 ·intro w'
  go_simp
  with_reducible rfl
 rotate_left
 ·simp only [Act.put, List.setIfInBounds_toArray, List.set_cons_zero, List.set_cons_succ, i64_w, i32_w]
  rfl
 refine take_ (i := 3) (N := (some 76)) (v := ?_) (a' := ?_) knceA120 rfl rfl (take_ofW HT_.out HW_.out (by kernel_rfl)) (fun _ _ _ h => h) (Or.inl ⟨by rfl, ?_⟩) hHeld ?_ ?_
 rotate_left
 ·rintro w' ⟨s0, s1⟩
  have d0 := (blk_cell s0 0).trans HL.out.cells.c0
  go_simp
  with_reducible rfl
 rotate_left
 ·simp only [Act.put, List.setIfInBounds_toArray, List.set_cons_zero, List.set_cons_succ, i64_w, i32_w]
  rfl
 refine pure_ (i := 4) (N := (some 77)) (v := ?_) (a' := ?_) knceA119 rfl rfl (any_of HT_.out (by kernel_rfl)) (fun _ _ _ h => h) (Or.inl ⟨by rfl, ?_⟩) ?_ ?_
 rotate_left
 ·intro w'
  go_simp
  with_reducible rfl
 rotate_left
 ·simp only [Act.put, List.setIfInBounds_toArray, List.set_cons_zero, List.set_cons_succ, i64_w, i32_w]
  rfl
 refine take_ (i := 5) (N := (some 78)) (v := ?_) (a' := ?_) knceA118 rfl rfl (take_ofW HT_.out HW_.out (by kernel_rfl)) (fun _ _ _ h => h) (Or.inl ⟨by rfl, ?_⟩) hHeld ?_ ?_
 rotate_left
 ·rintro w' ⟨s0, s1⟩
  have e0 := (blk_cell s1 0).trans rfl
  have e1 := (blk_cell s1 1).trans rfl
  have e2 := (blk_cell s1 2).trans rfl
  go_simp
  with_reducible rfl
 rotate_left
 ·simp only [Act.put, List.setIfInBounds_toArray, List.set_cons_zero, List.set_cons_succ, i64_w, i32_w]
  rfl
 refine pure_ (i := 6) (N := (some 79)) (v := ?_) (a' := ?_) knceA117 rfl rfl (any_of HT_.out (by kernel_rfl)) (fun _ _ _ h => h) (Or.inl ⟨by rfl, ?_⟩) ?_ ?_
 rotate_left
 ·intro w'
  go_simp
  with_reducible rfl
 rotate_left
 ·simp only [Act.put, List.setIfInBounds_toArray, List.set_cons_zero, List.set_cons_succ, i64_w, i32_w]
  rfl
 refine take_ (i := 7) (N := (some 80)) (v := ?_) (a' := ?_) knceA116 rfl rfl (take_ofW HT_.out HW_.out (by kernel_rfl)) (fun _ _ _ h => h) (Or.inl ⟨by rfl, ?_⟩) hHeld ?_ ?_
 rotate_left
 ·rintro w' ⟨s0, s1⟩
  have e0 := (blk_cell s1 0).trans rfl
  have e1 := (blk_cell s1 1).trans rfl
  have e2 := (blk_cell s1 2).trans rfl
  go_simp
  with_reducible rfl
 rotate_left
 ·simp only [Act.put, List.setIfInBounds_toArray, List.set_cons_zero, List.set_cons_succ, i64_w, i32_w]
  rfl
 refine pure_ (i := 8) (N := (some 81)) (v := ?_) (a' := ?_) knceA115 rfl rfl (any_of HT_.out (by kernel_rfl)) (fun _ _ _ h => h) (Or.inl ⟨by rfl, ?_⟩) ?_ ?_
 rotate_left
 ·intro w'
  go_simp
  with_reducible rfl
 rotate_left
 ·simp only [Act.put, List.setIfInBounds_toArray, List.set_cons_zero, List.set_cons_succ, i64_w, i32_w]
  rfl
 refine pure_ (i := 9) (N := (some 82)) (v := ?_) (a' := ?_) knceA114 rfl rfl (any_of HT_.out (by kernel_rfl)) (fun _ _ _ h => h) (Or.inl ⟨by rfl, ?_⟩) ?_ ?_
 rotate_left
 ·intro w'
  go_simp
  with_reducible rfl
 rotate_left
 ·simp only [Act.put, List.setIfInBounds_toArray, List.set_cons_zero, List.set_cons_succ, i64_w, i32_w]
  rfl
 refine pure_ (i := 10) (N := (some 83)) (v := ?_) (a' := ?_) knceA113 rfl rfl (any_of HT_.out (by kernel_rfl)) (fun _ _ _ h => h) (Or.inl ⟨by rfl, ?_⟩) ?_ ?_
 rotate_left
 ·intro w'
  go_simp
  with_reducible rfl
 rotate_left
 ·simp only [Act.put, List.setIfInBounds_toArray, List.set_cons_zero, List.set_cons_succ, i64_w, i32_w]
  rfl
 refine take_ (i := 11) (N := (some 84)) (v := ?_) (a' := ?_) knceA112 rfl rfl (take_ofW HT_.out HW_.out (by kernel_rfl)) (fun _ _ _ h => h) (Or.inl ⟨by rfl, ?_⟩) hHeld ?_ ?_
 rotate_left
 ·rintro w' ⟨s0, s1⟩
  have d27 := (blk_cell s0 27).trans HL.out.cells.cc
  go_simp
  with_reducible rfl
 rotate_left
 ·simp only [Act.put, List.setIfInBounds_toArray, List.set_cons_zero, List.set_cons_succ, i64_w, i32_w]
  rfl
 refine pure_ (i := 12) (N := (some 85)) (v := ?_) (a' := ?_) knceA111 rfl rfl (any_of HT_.out (by kernel_rfl)) (fun _ _ _ h => h) (Or.inl ⟨by rfl, ?_⟩) ?_ ?_
 rotate_left
 ·intro w'
  go_simp
  trace_state
  rw [show (s.ctr + 1) / 256 = 0 from by omega]
  first | done | with_reducible rfl
 rotate_left
 ·simp only [Act.put, List.setIfInBounds_toArray, List.set_cons_zero, List.set_cons_succ, i64_w, i32_w]
  rfl
 refine pure_ (i := 13) (N := (some 86)) (v := ?_) (a' := ?_) knceA110 rfl rfl (any_of HT_.out (by kernel_rfl)) (fun _ _ _ h => h) (Or.inl ⟨by rfl, ?_⟩) ?_ ?_
 rotate_left
 ·intro w'
  go_simp
  first | done | (rw [wrap8_id (by omega)])
  first | done | with_reducible rfl
 rotate_left
 ·simp only [Act.put, List.setIfInBounds_toArray, List.set_cons_zero, List.set_cons_succ, i64_w, i32_w]
  rfl
 refine pure_ (i := 14) (N := (some 87)) (v := ?_) (a' := ?_) knceA109 rfl rfl (any_of HT_.out (by kernel_rfl)) (fun _ _ _ h => h) (Or.inl ⟨by rfl, ?_⟩) ?_ ?_
 rotate_left
 ·intro w'
  go_simp
  with_reducible rfl
 rotate_left
 ·simp only [Act.put, List.setIfInBounds_toArray, List.set_cons_zero, List.set_cons_succ, i64_w, i32_w]
  rfl
 refine pure_ (i := 15) (N := (some 88)) (v := ?_) (a' := ?_) knceA108 rfl rfl (any_of HT_.out (by kernel_rfl)) (fun _ _ _ h => h) (Or.inl ⟨by rfl, ?_⟩) ?_ ?_
 rotate_left
 ·intro w'
  go_simp
  with_reducible rfl
 rotate_left
 ·simp only [Act.put, List.setIfInBounds_toArray, List.set_cons_zero, List.set_cons_succ, i64_w, i32_w]
  rfl
 refine pure_ (i := 16) (N := (some 89)) (v := ?_) (a' := ?_) knceA107 rfl rfl (any_of HT_.out (by kernel_rfl)) (fun _ _ _ h => h) (Or.inl ⟨by rfl, ?_⟩) ?_ ?_
 rotate_left
 ·intro w'
  go_simp
  with_reducible rfl
 rotate_left
 ·simp only [Act.put, List.setIfInBounds_toArray, List.set_cons_zero, List.set_cons_succ, i64_w, i32_w]
  rfl
 refine take_ (i := 17) (N := (some 90)) (v := ?_) (a' := ?_) knceA106 rfl rfl (take_ofW HT_.out HW_.out (by kernel_rfl)) (fun _ _ _ h => h) (Or.inl ⟨by rfl, ?_⟩) hHeld ?_ ?_
 rotate_left
 ·rintro w' ⟨s0, s1⟩
  have d27 := (blk_cell s0 27).trans HL.out.cells.cc
  go_simp
  with_reducible rfl
 rotate_left
 ·simp only [Act.put, List.setIfInBounds_toArray, List.set_cons_zero, List.set_cons_succ, i64_w, i32_w]
  rfl
 refine pure_ (i := 18) (N := (some 91)) (v := ?_) (a' := ?_) knceA105 rfl rfl (any_of HT_.out (by kernel_rfl)) (fun _ _ _ h => h) (Or.inl ⟨by rfl, ?_⟩) ?_ ?_
 rotate_left
 ·intro w'
  go_simp
  first | done | (rw [wrap8_id (by omega)])
  first | done | with_reducible rfl
 rotate_left
 ·simp only [Act.put, List.setIfInBounds_toArray, List.set_cons_zero, List.set_cons_succ, i64_w, i32_w]
  rfl
 refine one_ (i := 19) (N := (some 92)) knceA104 rfl rfl (one_of HT_.out (by kernel_rfl)) (by decide) (fun K hK => ?_)
 refine value_ (w1 := w9.alloc (.cells #[.int .u8 0, .int .u8 (s.ctr + 1)] 5)) (v := .slice (some ⟨w9.heap.size, 0, none⟩) 2 2) (by rfl) rfl ?_ ?_
 ·go_simp
  first | done | rfl
 have b := below_alloc (Below.refl w9.heap.size w9) (.cells #[.int .u8 0, .int .u8 (s.ctr + 1)] 5)
 have HN := hd (blk_new w9 (.cells #[.int .u8 0, .int .u8 (s.ctr + 1)] 5))
 replace HC1 := hd (Kd.C_below HC1.out b)
 replace HB : Hd (Below base w0 (w9.alloc (.cells #[.int .u8 0, .int .u8 (s.ctr + 1)] 5))) := hd (below_then HB.out HL.out.bs b)
 replace HL := hd (HL.out.below b)
 replace HX := hd (blk_below HX.out b)
 refine hK.out _ _ ⟨HL.out.hg, HX.out⟩ (fun hHeld => ?_)
 clear hK K b hHeld
 generalize w9.heap.size = gn at HN ⊢
 generalize w9.alloc _ = w10 at HL HB HX HN HC1 ⊢
 refine norm_ (a' := ?_) ?_ ?_
 rotate_left
 ·show Act.put _ (some 92) _ = _
  simp only [Act.put, List.setIfInBounds_toArray, List.set_cons_zero, List.set_cons_succ, i64_w, i32_w]
  rfl
 refine one_ (i := 20) (N := (some 93)) knceA103 rfl rfl (one_of HT_.out (by kernel_rfl)) (by decide) (fun K hK => ?_)
 have hC2 : Kd.C (Kd.int .u8) w10 (some ⟨gn, 0, none⟩) [0, s.ctr + 1].length [0, s.ctr + 1] := bytes_C HN.out
 refine goes_ Try.func12 (by kernel_rfl) rfl #[.slice A0 l1.length c0, .int .i64 ((k : Int) + 1), .int .i64 (r : Int), .slice (some ⟨gn, 0, none⟩) 2 2] (by rfl) rfl rfl (by (try simp only [List.map_toArray, List.map_cons, List.map_nil]); first | done | rfl) ?_
 refine (session_Done.calls A0 c0 l1 ((k : Int) + 1) (r : Int) (some ⟨gn, 0, none⟩) 2 [0, s.ctr + 1] m 0 w10 HC1.out HCC.out hC2 (by simp) HDN.out).mono ?_
 rintro e w11 ⟨v3, rfl, hR3, b⟩
 refine ⟨_, rfl, ?_⟩
 have HO3 : Hd (Own k44 44 base w11 v3 m) := hd (Own.of hR3 HL.out.bs)
 obtain ⟨A3, c3, rfl, _, _⟩ := Kd.R_reads hR3
 replace HB : Hd (Below base w0 w11) := hd (below_then HB.out HL.out.bs b)
 replace HL := hd (HL.out.below b)
 replace HX := hd (blk_below HX.out b)
 refine hK.out _ _ ⟨HL.out.hg, HX.out⟩ (fun hHeld => ?_)
 clear hK K b hR3 hC2 HC1 HN
 refine norm_ (a' := ?_) ?_ ?_
 rotate_left
 ·show Act.put _ (some 93) _ = _
  simp only [Act.put, List.setIfInBounds_toArray, List.set_cons_zero, List.set_cons_succ, i64_w, i32_w]
  rfl
 refine pure_ (i := 21) (N := (some 72)) (v := ?_) (a' := ?_) knceA102 rfl rfl (any_of HT_.out (by kernel_rfl)) (fun _ _ _ h => h) (Or.inl ⟨by rfl, ?_⟩) ?_ ?_
 rotate_left
 ·intro w'
  go_simp
  with_reducible rfl
 rotate_left
 ·simp only [Act.put, List.setIfInBounds_toArray, List.set_cons_zero, List.set_cons_succ, i64_w, i32_w]
  rfl
 refine pure_ (i := 22) (N := (some 94)) (v := ?_) (a' := ?_) knceA101 rfl rfl (any_of HT_.out (by kernel_rfl)) (fun _ _ _ h => h) (Or.inl ⟨by rfl, ?_⟩) ?_ ?_
 rotate_left
 ·intro w'
  go_simp
  with_reducible rfl
 rotate_left
 ·simp only [Act.put, List.setIfInBounds_toArray, List.set_cons_zero, List.set_cons_succ, i64_w, i32_w]
  rfl
 refine pure_ (i := 23) (N := (some 95)) (v := ?_) (a' := ?_) knceA100 rfl rfl (any_of HT_.out (by kernel_rfl)) (fun _ _ _ h => h) (Or.inl ⟨by rfl, ?_⟩) ?_ ?_
 rotate_left
 ·intro w'
  go_simp
  with_reducible rfl
 rotate_left
 ·simp only [Act.put, List.setIfInBounds_toArray, List.set_cons_zero, List.set_cons_succ, i64_w, i32_w]
  rfl
 refine pure_ (i := 24) (N := (some 10)) (v := ?_) (a' := ?_) knceA99 rfl rfl (any_of HT_.out (by kernel_rfl)) (fun _ _ _ h => h) (Or.inl ⟨by rfl, ?_⟩) ?_ ?_
 rotate_left
 ·intro w'
  go_simp
  with_reducible rfl
 rotate_left
 ·simp only [Act.put, List.setIfInBounds_toArray, List.set_cons_zero, List.set_cons_succ, i64_w, i32_w]
  rfl
 refine pure_ (i := 25) (N := (some 11)) (v := ?_) (a' := ?_) knceA98 rfl rfl (any_of HT_.out (by kernel_rfl)) (fun _ _ _ h => h) (Or.inl ⟨by rfl, ?_⟩) ?_ ?_
 rotate_left
 ·intro w'
  go_simp
  with_reducible rfl
 rotate_left
 ·simp only [Act.put, List.setIfInBounds_toArray, List.set_cons_zero, List.set_cons_succ, i64_w, i32_w]
  rfl
 refine done_ (done_of HT_.out (by kernel_rfl)) ?_
 clear HT_ HW_
 go_wp2_with ((with_reducible refine gate_store (t := 22) (p := 101) rfl ?_); refine wpList_store1 rfl 22 (.tmp 101) (.tmp 99) rfl g 0 (.slice A3 m.length c3) rfl rfl ?hrun ?_; (case hrun => (have c_ := (blk_cell HL.out.hg 0).trans HL.out.cells.c0; have f_ := blk_frozen HL.out.hg 0; go_simp; first | done | rfl)); refine holdOarN ?_)
 refine ⟨?_⟩
 have T12 := turn_set (j := 0) HL.out.hg HL.out.gb (.slice A3 m.length c3)
 have HL12 := hd (HL.out.put_l HO3.out)
 replace HB := hd (HB.out.trans T12.below)
 replace HX := hd (T12.keep _ _ _ HX.out (by decide))
 clear HL T12 HO3
 have HL := HL12
 clear HL12
 generalize World.setCell _ _ _ = w12 at HL HB HX ⊢
 go_wp2_with fail
 refine start_ (n := 19) (S := fun w' => w'.heap[g]? = some (.cells (((cs.setIfInBounds 0 (.slice A0 l1.length c0)).setIfInBounds 27 (.int .i64 (s.ctr + 1))).setIfInBounds 0 (.slice A3 m.length c3)) 67 (0, 0)) ∧ w'.heap[gx]? = some (.cells #[.int .i64 ((k : Int) + 1), .int .i64 (r : Int), .int .i64 ak] 72 (0, 0))) (ds := [15, 16, 17, 18]) #[false, false, false, false, false, false, false, false, false, false, false, false, false, false, false, false, false, false, false] (by kernel_rfl) rfl rfl ⟨HL.out.hg, HX.out⟩ (fun hHeld => ?_)
 refine with_tabW arN.tab17 arN.bits17 (fun HT_ HW_ => ?_)
 have HL0 := HL
 have HL : Hd (Lay base g w12.drew _ _ _ _ _ _ _ _) := hd (HL0.out.below (below_drew1 (Below.refl _ _)))
 have HB0 := HB
 have HB : Hd (Below base w0 w12.drew) := hd (below_drew1 HB0.out)
 have HX0 := HX
 have HX : Hd (w12.drew.heap[gx]? = _) := hd HX0.out
 clear HL0 HB0 HX0
 generalize w12.drew = w13 at HL HB HX hHeld ⊢
 refine pure_ (i := 0) (N := (some 102)) (v := ?_) (a' := ?_) #[true, false, false, false, false, false, false, false, false, false, false, false, false, false, false, false, false, false, false] rfl rfl (any_of HT_.out (by kernel_rfl)) (fun _ _ _ h => h) (Or.inl ⟨by rfl, ?_⟩) ?_ ?_
 rotate_left
 ·intro w'
  go_simp
  with_reducible rfl
 rotate_left
 ·simp only [Act.put, List.setIfInBounds_toArray, List.set_cons_zero, List.set_cons_succ, i64_w, i32_w]
  rfl
 refine pure_ (i := 1) (N := (some 103)) (v := ?_) (a' := ?_) #[true, true, false, false, false, false, false, false, false, false, false, false, false, false, false, false, false, false, false] rfl rfl (any_of HT_.out (by kernel_rfl)) (fun _ _ _ h => h) (Or.inl ⟨by rfl, ?_⟩) ?_ ?_
 rotate_left
 ·intro w'
  go_simp
  with_reducible rfl
 rotate_left
 ·simp only [Act.put, List.setIfInBounds_toArray, List.set_cons_zero, List.set_cons_succ, i64_w, i32_w]
  rfl
 refine pure_ (i := 2) (N := (some 104)) (v := ?_) (a' := ?_) #[true, true, true, false, false, false, false, false, false, false, false, false, false, false, false, false, false, false, false] rfl rfl (any_of HT_.out (by kernel_rfl)) (fun _ _ _ h => h) (Or.inl ⟨by rfl, ?_⟩) ?_ ?_
 rotate_left
 ·intro w'
  go_simp
  with_reducible rfl
 rotate_left
 ·simp only [Act.put, List.setIfInBounds_toArray, List.set_cons_zero, List.set_cons_succ, i64_w, i32_w]
  rfl
 refine pure_ (i := 3) (N := (some 105)) (v := ?_) (a' := ?_) #[true, true, true, true, false, false, false, false, false, false, false, false, false, false, false, false, false, false, false] rfl rfl (any_of HT_.out (by kernel_rfl)) (fun _ _ _ h => h) (Or.inl ⟨by rfl, ?_⟩) ?_ ?_
 rotate_left
 ·intro w'
  go_simp
  with_reducible rfl
 rotate_left
 ·simp only [Act.put, List.setIfInBounds_toArray, List.set_cons_zero, List.set_cons_succ, i64_w, i32_w]
  rfl
 refine take_ (i := 4) (N := (some 106)) (v := ?_) (a' := ?_) #[true, true, true, true, true, false, false, false, false, false, false, false, false, false, false, false, false, false, false] rfl rfl (take_ofW HT_.out HW_.out (by kernel_rfl)) (fun _ _ _ h => h) (Or.inl ⟨by rfl, ?_⟩) hHeld ?_ ?_
 rotate_left
 ·rintro w' ⟨s0, s1⟩
  have d18 := (blk_cell s0 18).trans HL.out.cells.cb
  go_simp
  with_reducible rfl
 rotate_left
 ·simp only [Act.put, List.setIfInBounds_toArray, List.set_cons_zero, List.set_cons_succ, i64_w, i32_w]
  rfl
 refine pure_ (i := 5) (N := (some 107)) (v := ?_) (a' := ?_) #[true, true, true, true, true, true, false, false, false, false, false, false, false, false, false, false, false, false, false] rfl rfl (any_of HT_.out (by kernel_rfl)) (fun _ _ _ h => h) (Or.inl ⟨by rfl, ?_⟩) ?_ ?_
 rotate_left
 ·intro w'
  go_simp
  with_reducible rfl
 rotate_left
 ·simp only [Act.put, List.setIfInBounds_toArray, List.set_cons_zero, List.set_cons_succ, i64_w, i32_w]
  rfl
 refine take_ (i := 6) (N := (some 108)) (v := ?_) (a' := ?_) #[true, true, true, true, true, true, true, false, false, false, false, false, false, false, false, false, false, false, false] rfl rfl (take_ofW HT_.out HW_.out (by kernel_rfl)) (fun _ _ _ h => h) (Or.inl ⟨by rfl, ?_⟩) hHeld ?_ ?_
 rotate_left
 ·rintro w' ⟨s0, s1⟩
  have e0 := (blk_cell s1 0).trans rfl
  have e1 := (blk_cell s1 1).trans rfl
  have e2 := (blk_cell s1 2).trans rfl
  go_simp
  with_reducible rfl
 rotate_left
 ·simp only [Act.put, List.setIfInBounds_toArray, List.set_cons_zero, List.set_cons_succ, i64_w, i32_w]
  rfl
 refine pure_ (i := 7) (N := (some 109)) (v := ?_) (a' := ?_) #[true, true, true, true, true, true, true, true, false, false, false, false, false, false, false, false, false, false, false] rfl rfl (any_of HT_.out (by kernel_rfl)) (fun _ _ _ h => h) (Or.inl ⟨by rfl, ?_⟩) ?_ ?_
 rotate_left
 ·intro w'
  go_simp
  with_reducible rfl
 rotate_left
 ·simp only [Act.put, List.setIfInBounds_toArray, List.set_cons_zero, List.set_cons_succ, i64_w, i32_w]
  rfl
 refine take_ (i := 8) (N := (some 110)) (v := ?_) (a' := ?_) #[true, true, true, true, true, true, true, true, true, false, false, false, false, false, false, false, false, false, false] rfl rfl (take_ofW HT_.out HW_.out (by kernel_rfl)) (fun _ _ _ h => h) (Or.inl ⟨by rfl, ?_⟩) hHeld ?_ ?_
 rotate_left
 ·rintro w' ⟨s0, s1⟩
  have e0 := (blk_cell s1 0).trans rfl
  have e1 := (blk_cell s1 1).trans rfl
  have e2 := (blk_cell s1 2).trans rfl
  go_simp
  with_reducible rfl
 rotate_left
 ·simp only [Act.put, List.setIfInBounds_toArray, List.set_cons_zero, List.set_cons_succ, i64_w, i32_w]
  rfl
 refine pure_ (i := 9) (N := (some 111)) (v := ?_) (a' := ?_) #[true, true, true, true, true, true, true, true, true, true, false, false, false, false, false, false, false, false, false] rfl rfl (any_of HT_.out (by kernel_rfl)) (fun _ _ _ h => h) (Or.inl ⟨by rfl, ?_⟩) ?_ ?_
 rotate_left
 ·intro w'
  go_simp
  with_reducible rfl
 rotate_left
 ·simp only [Act.put, List.setIfInBounds_toArray, List.set_cons_zero, List.set_cons_succ, i64_w, i32_w]
  rfl
 refine pure_ (i := 10) (N := (some 112)) (v := ?_) (a' := ?_) #[true, true, true, true, true, true, true, true, true, true, true, false, false, false, false, false, false, false, false] rfl rfl (any_of HT_.out (by kernel_rfl)) (fun _ _ _ h => h) (Or.inl ⟨by rfl, ?_⟩) ?_ ?_
 rotate_left
 ·intro w'
  go_simp
  with_reducible rfl
 rotate_left
 ·simp only [Act.put, List.setIfInBounds_toArray, List.set_cons_zero, List.set_cons_succ, i64_w, i32_w]
  rfl
 refine pure_ (i := 11) (N := (some 113)) (v := ?_) (a' := ?_) #[true, true, true, true, true, true, true, true, true, true, true, true, false, false, false, false, false, false, false] rfl rfl (any_of HT_.out (by kernel_rfl)) (fun _ _ _ h => h) (Or.inl ⟨by rfl, ?_⟩) ?_ ?_
 rotate_left
 ·intro w'
  go_simp
  with_reducible rfl
 rotate_left
 ·simp only [Act.put, List.setIfInBounds_toArray, List.set_cons_zero, List.set_cons_succ, i64_w, i32_w]
  rfl
 refine take_ (i := 12) (N := (some 114)) (v := ?_) (a' := ?_) #[true, true, true, true, true, true, true, true, true, true, true, true, true, false, false, false, false, false, false] rfl rfl (take_ofW HT_.out HW_.out (by kernel_rfl)) (fun _ _ _ h => h) (Or.inl ⟨by rfl, ?_⟩) hHeld ?_ ?_
 rotate_left
 ·rintro w' ⟨s0, s1⟩
  have d27 := (blk_cell s0 27).trans HL.out.cells.cc
  go_simp
  with_reducible rfl
 rotate_left
 ·simp only [Act.put, List.setIfInBounds_toArray, List.set_cons_zero, List.set_cons_succ, i64_w, i32_w]
  rfl
 refine pure_ (i := 13) (N := (some 115)) (v := ?_) (a' := ?_) #[true, true, true, true, true, true, true, true, true, true, true, true, true, true, false, false, false, false, false] rfl rfl (any_of HT_.out (by kernel_rfl)) (fun _ _ _ h => h) (Or.inl ⟨by rfl, ?_⟩) ?_ ?_
 rotate_left
 ·intro w'
  go_simp
  with_reducible rfl
 rotate_left
 ·simp only [Act.put, List.setIfInBounds_toArray, List.set_cons_zero, List.set_cons_succ, i64_w, i32_w]
  rfl
 refine one_ (i := 14) (N := (some 116)) #[true, true, true, true, true, true, true, true, true, true, true, true, true, true, true, false, false, false, false] rfl rfl (one_of HT_.out (by kernel_rfl)) (by decide) (fun K hK => ?_)
 refine value_ (w1 := w13.alloc (.cells #[.int .i64 ((k : Int) + 1), .int .i64 (r : Int), .int .i64 (s.ctr + 1)] 75)) (v := .slice (some ⟨w13.heap.size, 0, none⟩) 1 1) (by rfl) rfl ?_ ?_
 ·go_simp
  first | done | rfl
 have b : Below w13.heap.size w13 (w13.alloc (.cells #[.int .i64 ((k : Int) + 1), .int .i64 (r : Int), .int .i64 (s.ctr + 1)] 75)) := below_alloc (Below.refl _ w13) _
 have HN := hd (blk_new w13 (.cells #[.int .i64 ((k : Int) + 1), .int .i64 (r : Int), .int .i64 (s.ctr + 1)] 75))
 replace HB : Hd (Below base w0 (w13.alloc (.cells #[.int .i64 ((k : Int) + 1), .int .i64 (r : Int), .int .i64 (s.ctr + 1)] 75))) := hd (below_then HB.out HL.out.bs b)
 replace HL := hd (HL.out.below b)
 replace HX := hd (blk_below HX.out b)
 refine hK.out _ _ ⟨HL.out.hg, HX.out⟩ (fun hHeld => ?_)
 clear hK K b hHeld
 generalize w13.heap.size = gn at HN ⊢
 generalize w13.alloc _ = wn at HL HB HX HN ⊢
 refine norm_ (a' := ?_) ?_ ?_
 rotate_left
 ·show Act.put _ (some 116) _ = _
  simp only [Act.put, List.setIfInBounds_toArray, List.set_cons_zero, List.set_cons_succ, i64_w, i32_w]
  rfl
 refine last_ (i := 15) (N := (some 117)) #[true, true, true, true, true, true, true, true, true, true, true, true, true, true, true, true, false, false, false] rfl rfl (one_of HT_.out (by kernel_rfl)) (by decide) (fun K hK => ?_)
 obtain ⟨v8, w8, hr, hv8, Tt⟩ := HL.out.ob.append (sl := 64) Try.underlying64 info75 HL.out.bs ((k : Int) + 1, (r : Int), s.ctr + 1) ⟨gn, 0, none⟩ (fun j u hj => by
  rw [Addr.add_lit, Nat.zero_add, blk_cell HN.out j, ← Array.getElem?_toList]
  exact hj) hlen 64
 refine value_ (w1 := w8) (v := v8) (by rfl) rfl ?_ ?_
 ·unfold execOp
  simp [Deferred.ofValue, invoke, resolve, Act.eval, builtin, hr]
 have HL9 := hd (HL.out.put_b Tt hv8)
 have hg9 := hd (Tt.keep _ _ _ HL.out.hg (by decide))
 have HB9 := hd ((HB.out.trans Tt.below).trans (turn_set (j := 18) hg9.out HL.out.gb v8).below)
 refine hK.out _ _ ?_
 clear hK K hr
 refine norm_ (a' := ?_) ?_ ?_
 rotate_left
 ·show Act.put _ (some 117) _ = _
  simp only [Act.put, List.setIfInBounds_toArray, List.set_cons_zero, List.set_cons_succ, i64_w, i32_w]
  rfl
 refine pure_ (i := 16) (N := (some 118)) (v := ?_) (a' := ?_) #[true, true, true, true, true, true, true, true, true, true, true, true, true, true, true, true, true, false, false] rfl rfl (any_of HT_.out (by kernel_rfl)) (fun _ _ _ h => h) (Or.inl ⟨by rfl, ?_⟩) ?_ ?_
 rotate_left
 ·intro w'
  go_simp
  with_reducible rfl
 rotate_left
 ·simp only [Act.put, List.setIfInBounds_toArray, List.set_cons_zero, List.set_cons_succ, i64_w, i32_w]
  rfl
 refine pure_ (i := 17) (N := (some 119)) (v := ?_) (a' := ?_) #[true, true, true, true, true, true, true, true, true, true, true, true, true, true, true, true, true, true, false] rfl rfl (any_of HT_.out (by kernel_rfl)) (fun _ _ _ h => h) (Or.inl ⟨by rfl, ?_⟩) ?_ ?_
 rotate_left
 ·intro w'
  go_simp
  with_reducible rfl
 rotate_left
 ·simp only [Act.put, List.setIfInBounds_toArray, List.set_cons_zero, List.set_cons_succ, i64_w, i32_w]
  rfl
 refine last_ (i := 18) (N := none) #[true, true, true, true, true, true, true, true, true, true, true, true, true, true, true, true, true, true, true] rfl rfl (one_of HT_.out (by kernel_rfl)) (by decide) (fun K hK => ?_)
 have cf := (blk_cell hg9.out 18).trans HL.out.cells.cb
 have ff := blk_frozen hg9.out 18
 refine skip_ (w1 := w8.setCell ⟨g, 18, none⟩ v8) (by rfl) rfl ?_ ?_
 ·obtain ⟨A8, c8, hv, _⟩ := hv8.slice
  subst hv
  go_simp
 refine hK.out _ _ ?_
 clear hK K
 refine done_ (done_of HT_.out (by kernel_rfl)) ?_
 clear HT_ HW_
 go_wp2
 go_ret
 exact ⟨rfl, ⟨_, _, _, _, _, _, _, HL9.out⟩, HB9.out⟩
end Go.Proofs.Ytafnjlgdjhegaaa.Pr
end
section
namespace Go.Proofs.Ytafnjlgdjhegaaa.Pr
open Go.RowKit Go.Proofs.YtafnjlgdjhegaaaW.PrintWords Go.Proofs.YtafnjlgdjhegaaaW.PrintLast Go.Proofs.YtafnjlgdjhegaaaW.PrintMore Go.Proofs.YtafnjlgdjhegaaaG
set_option linter.unusedVariables false
set_option linter.unusedSimpArgs false
theorem look_some {l : List S44} {cl rq ak : Int} (hR : RightP l) (ha : lookArgs cl rq ak) : session_Look.f l cl rq ak = some (lookGood l cl rq ak) := by
 unfold session_Look.f
 rw [if_pos (by rw [hR.1, (lookArgs_iff _ _ _).2 ha]; rfl), if_pos ((small44_iff _).2 hR.2)]
theorem ids_in64 {l : List S44} (h : rightB l = true) : (l.map S44.f0).all i64B = true := by
 rw [List.all_eq_true]
 intro x hx
 have := rises_mem (right_len h).2.1 x hx
 rw [i64_iff]
 unfold i64
 omega
theorem done_some {l : List S44} {cl rq : Int} {rep : List Int} (hR : RightP l) (hc : i64 cl) (hq : i64 rq) : session_Done.f l cl rq rep = some (donePure l cl rq rep) := by
 unfold session_Done.f doneFine
 rw [if_pos]
 rw [(small44_iff _).2 hR.2, ids_in64 hR.1, (i64_iff _).2 hc, (i64_iff _).2 hq]
 rfl
/-- What is known of the whole in round n. -/
structure Good (s : Ws) (n : Nat) : Prop where
 inv : InvO s n
 bods : ∀ k, k < 4 → ∀ x ∈ (s.a k).ws, x.f1.length ≤ 1
 lt : s.tos.length ≤ 60 + n
 lb : s.bks.length ≤ n
theorem Good.more {s : Ws} {n m : Nat} (h : Good s n) (hm : n ≤ m) : Good s m := ⟨inv_more h.inv (by omega), h.bods, by have := h.lt; omega, by have := h.lb; omega⟩
theorem arrives_calls (base g : Nat) (w0 w : World) (s : Ws) (n : Nat) (p : Int × Int × Int) (hM : LayM base g w s) (hG : Good s n) (hn : n ≤ 199) (hp : okTo s p) (hB : Below base w0 w) :
  Calls Try.prog 32 #[.pointer (some ⟨g, 0, none⟩), .agg #[.int .i64 p.1, .int .i64 p.2.1, .int .i64 p.2.2]] w fun e w' => e = .returned (.bool true) ∧ ∃ s', LayM base g w' s' ∧ Good s' (n + 1) ∧ Below base w0 w' := by
 obtain ⟨cs, vl, vt, vb, vw, bd, bf, hL⟩ := hM
 obtain ⟨k, hk, h1, h2, h3, ha, l1, hR1, hh⟩ := arrive_law hG.inv (by omega) hp
 obtain ⟨id, rq, ak⟩ := p
 simp only at h1 h2 h3 ha hh ⊢
 subst h1
 obtain ⟨r, rfl⟩ : ∃ r : Nat, rq = (r : Int) := ⟨rq.toNat, by omega⟩
 have hls := look_some hG.inv.right ha
 have hcn0 := hG.inv.cn0
 have hcn := hG.inv.cn
 have hlb := hG.lb
 have hlt := hG.lt
 rcases hh with ⟨e, hd0, m, hm, hI⟩ | ⟨e, hd1, hd2, hI⟩ | ⟨e, hg, hI⟩
 ·rw [e] at hls
  have hds := done_some (rep := [0, s.ctr + 1]) (cl := (k : Int) + 1) (rq := (r : Int)) hR1 (by constructor <;> omega) (by constructor <;> omega)
  rw [hm] at hds
  refine (arrive_new base g w0 w cs s vl vt vb vw bd bf k r ak l1 hk hL hB (by omega) (by omega) hls m hd0 hds hcn0 (by omega) (by omega)).mono ?_
  rintro e' w' ⟨rfl, hM', hB'⟩
  exact ⟨rfl, _, hM', ⟨by exact_mod_cast hI, hG.bods, by show s.tos.length ≤ _; omega, by rw [List.length_append]; simp; omega⟩, hB'⟩
 ·rw [e] at hls
  refine (arrive_old base g w0 w cs s vl vt vb vw bd bf k r ak l1 hk hL hB (by omega) (by omega) hls hd1 (by omega) (by omega)).mono ?_
  rintro e' w' ⟨rfl, hM', hB'⟩
  exact ⟨rfl, _, hM', ⟨inv_more hI (by omega), hG.bods, by show s.tos.length ≤ _; omega, by rw [List.length_append]; simp; omega⟩, hB'⟩
 ·rw [e] at hls
  refine (arrive_stale base g w0 w cs s vl vt vb vw bd bf k r ak l1 hk hL hB (by omega) (by omega) hls hg).mono ?_
  rintro e' w' ⟨rfl, hM', hB'⟩
  exact ⟨rfl, _, hM', ⟨inv_more hI (by omega), hG.bods, by show s.tos.length ≤ _; omega, by show s.bks.length ≤ _; omega⟩, hB'⟩
theorem takes_calls (base g : Nat) (w0 w : World) (s : Ws) (n : Nat) (p : Int × Int × Int) (hM : LayM base g w s) (hG : Good s n) (hn : n ≤ 199) (hp : okBack s p) (hB : Below base w0 w) :
  Calls Try.prog 33 #[.pointer (some ⟨g, 0, none⟩), .agg #[.int .i64 p.1, .int .i64 p.2.1, .int .i64 p.2.2]] w fun e w' => e = .returned (.bool true) ∧ ∃ s', LayM base g w' s' ∧ Good s' (n + 1) ∧ Below base w0 w' := by
 obtain ⟨cs, vl, vt, vb, vw, bd, bf, hL⟩ := hM
 obtain ⟨k, hk, h1, h2, h3, hask, hhas, hgot, hI⟩ := take_law hG.inv (by omega) hp
 obtain ⟨id, rq, v⟩ := p
 simp only at h1 h2 h3 hhas hgot hI ⊢
 subst h1
 have hsm := small_ws hG.inv (by omega) hk (hG.bods k hk)
 obtain ⟨kk, hkk⟩ := waits_ev (s.a k).ws hsm
 have hai := asker_iff.1 hask
 have hac := (acked_eq (s.a k).id (s.a k).nx (s.a k).ak (s.a k).ws hai.2.1.1 hai.2.1.2 hai.2.2.1).2
 have hake := hai.2.2.2.2.1
 refine (takes_walk base g w0 w cs s vl vt vb vw bd bf k rq v kk hk hL hB h2 h3 (by rw [hake]; constructor <;> omega) hsm.1 (hkk kk (Nat.le_refl _)) hask hhas hgot).mono ?_
 rintro e' w' ⟨rfl, hM', hB'⟩
 have hlb := hG.lb
 have hlt := hG.lt
 refine ⟨rfl, _, hM', ⟨inv_more hI (by omega), fun j hj x hx => ?_, by show s.tos.length ≤ _; omega, by show s.bks.length ≤ _; omega⟩, hB'⟩
 have hx' : x ∈ (setA s.a k ⟨(s.a k).id, (s.a k).nx, ackP (s.a k).nx (takeL (s.a k).ws rq), takeL (s.a k).ws rq⟩ j).ws := hx
 by_cases hjk : j = k
 ·subst hjk
  simp only [setA, if_true] at hx'
  exact hG.bods j hj x (List.mem_filter.1 hx').1
 ·simp only [setA, if_neg hjk] at hx'
  exact hG.bods j hj x hx'
end Go.Proofs.Ytafnjlgdjhegaaa.Pr
end
