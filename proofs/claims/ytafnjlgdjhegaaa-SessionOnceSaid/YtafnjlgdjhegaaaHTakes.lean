-- MINIFIED by wip/tools/minify.py
/-
 SessionOnce: takes.
-/
import Derived.Test.YtafnjlgdjhegaaaHOnceL
import Derived.Deep.CutBlock
import Derived.Deep.DeepCutAuto
namespace Go.Proofs.Ytafnjlgdjhegaaa.Pr
open Go.RowKit Go.Proofs.YtafnjlgdjhegaaaW.PrintWords Go.Proofs.YtafnjlgdjhegaaaW.PrintLast Go.Proofs.YtafnjlgdjhegaaaW.PrintMore Go.Proofs.YtafnjlgdjhegaaaG
set_option linter.unusedVariables false
set_option linter.unusedSimpArgs false
abbrev kakes0 : Array Bool := #[true, true, true, true, true, true, true, true, true, true, true, true]
abbrev kakes1 : Array Bool := #[true, true, true, true, true, true, true, true, true, true, true, false]
abbrev kakes2 : Array Bool := #[true, true, true, true, true, true, true, true, true, true, false, false]
abbrev kakes3 : Array Bool := #[true, true, true, true, true, true, true, true, true, false, false, false]
abbrev kakes4 : Array Bool := #[true, true, true, true, true, true, true, true, false, false, false, false]
abbrev kakes5 : Array Bool := #[true, true, true, true, true, true, true, false, false, false, false, false]
abbrev kakes6 : Array Bool := #[true, true, true, true, true, true, false, false, false, false, false, false]
abbrev kakes7 : Array Bool := #[true, true, true, true, true, false, false, false, false, false, false, false]
abbrev kakes8 : Array Bool := #[true, true, true, true, false, false, false, false, false, false, false, false]
abbrev kakes9 : Array Bool := #[true, true, true, false, false, false, false, false, false, false, false, false]
abbrev kakes10 : Array Bool := #[true, true, false, false, false, false, false, false, false, false, false, false]
abbrev kakes11 : Array Bool := #[true, false, false, false, false, false, false, false, false, false, false, false]
abbrev kakes12 : Array Bool := #[false, false, false, false, false, false, false, false, false, false, false, false]
abbrev kakes16 : Array Bool := #[true, true, true, true, true, true, true, true, true, true, true, true, true, true, false, false, false]
abbrev kakes36 : Array Bool := #[true, true, true, true, true, true, true, true, true, true, true, true, true, true, true, true, true, true, true, true, true, true, true, true, true, true, true, true, true, true, true, true, true, true, true, true]
abbrev kakes37 : Array Bool := #[true, true, true, true, true, true, true, true, true, true, true, true, true, true, true, true, true, true, true, true, true, true, true, true, true, true, true, true, true, true, true, true, true, true, true, false]
abbrev kakes38 : Array Bool := #[true, true, true, true, true, true, true, true, true, true, true, true, true, true, true, true, true, true, true, true, true, true, true, true, true, true, true, true, true, true, true, true, true, true, false, false]
abbrev kakes39 : Array Bool := #[true, true, true, true, true, true, true, true, true, true, true, true, true, true, true, true, true, true, true, true, true, true, true, true, true, true, true, true, true, true, true, true, true, false, false, false]
abbrev kakes40 : Array Bool := #[true, true, true, true, true, true, true, true, true, true, true, true, true, true, true, true, true, true, true, true, true, true, true, true, true, true, true, true, true, true, true, true, false, false, false, false]
abbrev kakes41 : Array Bool := #[true, true, true, true, true, true, true, true, true, true, true, true, true, true, true, true, true, true, true, true, true, true, true, true, true, true, true, true, true, true, true, false, false, false, false, false]
abbrev kakes42 : Array Bool := #[true, true, true, true, true, true, true, true, true, true, true, true, true, true, true, true, true, true, true, true, true, true, true, true, true, true, true, true, true, true, false, false, false, false, false, false]
abbrev kakes43 : Array Bool := #[true, true, true, true, true, true, true, true, true, true, true, true, true, true, true, true, true, true, true, true, true, true, true, true, true, true, true, true, true, false, false, false, false, false, false, false]
abbrev kakes44 : Array Bool := #[true, true, true, true, true, true, true, true, true, true, true, true, true, true, true, true, true, true, true, true, true, true, true, true, true, true, true, true, false, false, false, false, false, false, false, false]
abbrev kakes45 : Array Bool := #[true, true, true, true, true, true, true, true, true, true, true, true, true, true, true, true, true, true, true, true, true, true, true, true, true, true, true, false, false, false, false, false, false, false, false, false]
abbrev kakes46 : Array Bool := #[true, true, true, true, true, true, true, true, true, true, true, true, true, true, true, true, true, true, true, true, true, true, true, true, true, true, false, false, false, false, false, false, false, false, false, false]
abbrev kakes47 : Array Bool := #[true, true, true, true, true, true, true, true, true, true, true, true, true, true, true, true, true, true, true, true, true, true, true, true, true, false, false, false, false, false, false, false, false, false, false, false]
abbrev kakes48 : Array Bool := #[true, true, true, true, true, true, true, true, true, true, true, true, true, true, true, true, true, true, true, true, true, true, true, true, false, false, false, false, false, false, false, false, false, false, false, false]
abbrev kakes49 : Array Bool := #[true, true, true, true, true, true, true, true, true, true, true, true, true, true, true, true, true, true, true, true, true, true, true, false, false, false, false, false, false, false, false, false, false, false, false, false]
abbrev kakes50 : Array Bool := #[true, true, true, true, true, true, true, true, true, true, true, true, true, true, true, true, true, true, true, true, true, true, false, false, false, false, false, false, false, false, false, false, false, false, false, false]
abbrev kakes51 : Array Bool := #[true, true, true, true, true, true, true, true, true, true, true, true, true, true, true, true, true, true, true, true, true, false, false, false, false, false, false, false, false, false, false, false, false, false, false, false]
abbrev kakes52 : Array Bool := #[true, true, true, true, true, true, true, true, true, true, true, true, true, true, true, true, true, true, true, true, false, false, false, false, false, false, false, false, false, false, false, false, false, false, false, false]
abbrev kakes53 : Array Bool := #[true, true, true, true, true, true, true, true, true, true, true, true, true, true, true, true, true, true, true, false, false, false, false, false, false, false, false, false, false, false, false, false, false, false, false, false]
abbrev kakes54 : Array Bool := #[true, true, true, true, true, true, true, true, true, true, true, true, true, true, true, true, true, true, false, false, false, false, false, false, false, false, false, false, false, false, false, false, false, false, false, false]
abbrev kakes55 : Array Bool := #[true, true, true, true, true, true, true, true, true, true, true, true, true, true, true, true, true, false, false, false, false, false, false, false, false, false, false, false, false, false, false, false, false, false, false, false]
abbrev kakes56 : Array Bool := #[true, true, true, true, true, true, true, true, true, true, true, true, true, true, true, true, false, false, false, false, false, false, false, false, false, false, false, false, false, false, false, false, false, false, false, false]
abbrev kakes57 : Array Bool := #[true, true, true, true, true, true, true, true, true, true, true, true, true, true, true, false, false, false, false, false, false, false, false, false, false, false, false, false, false, false, false, false, false, false, false, false]
abbrev kakes58 : Array Bool := #[true, true, true, true, true, true, true, true, true, true, true, true, true, true, false, false, false, false, false, false, false, false, false, false, false, false, false, false, false, false, false, false, false, false, false, false]
abbrev kakes59 : Array Bool := #[true, true, true, true, true, true, true, true, true, true, true, true, true, false, false, false, false, false, false, false, false, false, false, false, false, false, false, false, false, false, false, false, false, false, false, false]
abbrev kakes60 : Array Bool := #[true, true, true, true, true, true, true, true, true, true, true, true, false, false, false, false, false, false, false, false, false, false, false, false, false, false, false, false, false, false, false, false, false, false, false, false]
abbrev kakes61 : Array Bool := #[true, true, true, true, true, true, true, true, true, true, true, false, false, false, false, false, false, false, false, false, false, false, false, false, false, false, false, false, false, false, false, false, false, false, false, false]
abbrev kakes62 : Array Bool := #[true, true, true, true, true, true, true, true, true, true, false, false, false, false, false, false, false, false, false, false, false, false, false, false, false, false, false, false, false, false, false, false, false, false, false, false]
abbrev kakes63 : Array Bool := #[true, true, true, true, true, true, true, true, true, false, false, false, false, false, false, false, false, false, false, false, false, false, false, false, false, false, false, false, false, false, false, false, false, false, false, false]
abbrev kakes64 : Array Bool := #[true, true, true, true, true, true, true, true, false, false, false, false, false, false, false, false, false, false, false, false, false, false, false, false, false, false, false, false, false, false, false, false, false, false, false, false]
abbrev kakes65 : Array Bool := #[true, true, true, true, true, true, true, false, false, false, false, false, false, false, false, false, false, false, false, false, false, false, false, false, false, false, false, false, false, false, false, false, false, false, false, false]
abbrev kakes66 : Array Bool := #[true, true, true, true, true, true, false, false, false, false, false, false, false, false, false, false, false, false, false, false, false, false, false, false, false, false, false, false, false, false, false, false, false, false, false, false]
abbrev kakes67 : Array Bool := #[true, true, true, true, true, false, false, false, false, false, false, false, false, false, false, false, false, false, false, false, false, false, false, false, false, false, false, false, false, false, false, false, false, false, false, false]
abbrev kakes68 : Array Bool := #[true, true, true, true, false, false, false, false, false, false, false, false, false, false, false, false, false, false, false, false, false, false, false, false, false, false, false, false, false, false, false, false, false, false, false, false]
abbrev kakes69 : Array Bool := #[true, true, true, false, false, false, false, false, false, false, false, false, false, false, false, false, false, false, false, false, false, false, false, false, false, false, false, false, false, false, false, false, false, false, false, false]
abbrev kakes70 : Array Bool := #[true, true, false, false, false, false, false, false, false, false, false, false, false, false, false, false, false, false, false, false, false, false, false, false, false, false, false, false, false, false, false, false, false, false, false, false]
abbrev kakes71 : Array Bool := #[true, false, false, false, false, false, false, false, false, false, false, false, false, false, false, false, false, false, false, false, false, false, false, false, false, false, false, false, false, false, false, false, false, false, false, false]
abbrev kakes72 : Array Bool := #[false, false, false, false, false, false, false, false, false, false, false, false, false, false, false, false, false, false, false, false, false, false, false, false, false, false, false, false, false, false, false, false, false, false, false, false]
def takes.T2 : Bool × List (List Nat × List Nat) := (true, [([], []), ([], []), ([0], [0]), ([2], [2]), ([3, 1], [1, 3]), ([4], [4]), ([], []), ([6], [6]), ([5, 7], [5, 7]), ([8], [8]), ([9], [9]), ([9], [9]), ([9], [9]), ([], []), ([13, 10, 8, 0, 1, 2, 3, 4, 5, 6, 7, 8, 9, 10, 13], [10, 13]), ([11, 14, 0, 1, 2, 3, 4, 5, 6, 7, 8, 9, 10, 11, 13, 14], [11]), ([12, 15, 0, 1, 2, 3, 4, 5, 6, 7, 8, 9, 10, 11, 12, 13, 14, 15], [12])])
def takes.B2 : List Nat := [0, 0, 1, 5, 15, 31, 0, 64, 255, 511, 1023, 1023, 1023, 0, 10239, 28671, 65535]
theorem takes.tab2 : rtab .any (opsOf Try.f33 2) = takes.T2 := by kernel_rfl
theorem takes.bits2 : waitsOk takes.T2.2 takes.B2 = true := by kernel_rfl
def takes.T3 : Bool × List (List Nat × List Nat) := (true, [([], []), ([0], [0]), ([1], [1]), ([2], [2]), ([2], [2]), ([2], [2]), ([4, 2], [2, 4]), ([6, 2], [2, 6]), ([7, 5, 2], [2, 5, 7]), ([8, 2], [2, 8]), ([2], [2]), ([10, 2], [2, 10]), ([9, 11, 2], [2, 9, 11]), ([12, 2], [2, 12]), ([13, 2], [2, 13]), ([3, 14, 2], [2, 3, 14]), ([2, 15], [2, 15]), ([16, 2], [16]), ([17], [17]), ([18, 17], [17, 18]), ([19, 17, 17], [17, 19]), ([20], [20]), ([20], [20]), ([21, 20], [20, 21]), ([23, 20], [20, 23]), ([24, 22, 20], [20, 22, 24]), ([25, 20], [20, 25]), ([20], [20]), ([27, 20], [20, 27]), ([26, 28, 20], [20, 26, 28]), ([29, 20], [20, 29]), ([20], [20]), ([31, 20], [20, 31]), ([30, 32, 20], [20, 30, 32]), ([20, 33, 17], [17, 20, 33]), ([17, 34], [17, 34])])
def takes.B3 : List Nat := [0, 1, 3, 7, 7, 7, 23, 87, 247, 503, 7, 1031, 4087, 8183, 16375, 32767, 65535, 131071, 262143, 524287, 1048575, 2097151, 2097151, 4194303, 12582911, 33554431, 67108863, 2097151, 136314879, 536870911, 1073741823, 2097151, 2149580799, 8589934591, 17179869183, 34359738367]
theorem takes.tab3 : rtab .any (opsOf Try.f33 3) = takes.T3 := by kernel_rfl
theorem takes.bits3 : waitsOk takes.T3.2 takes.B3 = true := by kernel_rfl
def takes.T5 : Bool × List (List Nat × List Nat) := (true, [([], []), ([], []), ([], []), ([0], [0]), ([3], [3]), ([4, 1, 0, 1, 2], [1, 4]), ([5, 2, 0, 1, 2], [2, 5])])
def takes.B5 : List Nat := [0, 0, 0, 1, 9, 31, 63]
theorem takes.tab5 : rtab .any (opsOf Try.f33 5) = takes.T5 := by kernel_rfl
theorem takes.bits5 : waitsOk takes.T5.2 takes.B5 = true := by kernel_rfl
def takes.T6 : Bool × List (List Nat × List Nat) := (true, [([], []), ([], []), ([0], [0]), ([2], [2]), ([3, 1], [1, 3]), ([4], [4]), ([], []), ([6], [6]), ([], []), ([8], [8]), ([5, 7, 0, 1, 2, 3, 4, 5, 6, 7, 8, 9], [5, 7]), ([10, 9, 0, 1, 2, 3, 4, 5, 6, 7, 8, 9], [9, 10])])
def takes.B6 : List Nat := [0, 0, 1, 5, 15, 31, 0, 64, 0, 256, 1023, 2047]
theorem takes.tab6 : rtab .any (opsOf Try.f33 6) = takes.T6 := by kernel_rfl
theorem takes.bits6 : waitsOk takes.T6.2 takes.B6 = true := by kernel_rfl
theorem holdO {p} (h : Hd p) : p := h.out
set_option maxRecDepth 100000 in
set_option maxHeartbeats 8000000 in
theorem takes_walk (base g : Nat) (w0 w : World) (cs : Array Value) (s : Ws) (vl vt vb : Value) (vw : Nat → Value) (bd bf : Nat → Nat) (k : Nat) (rq v : Int) (kk : Nat) (hk : k < 4) (h : Lay base g w cs s vl vt vb vw bd bf) (hB : Below base w0 w)
  (hr1 : 1 ≤ rq) (hr2 : rq ≤ 200) (hak : i64 (s.a k).ak) (hlw : (s.a k).ws.length < 4398046511104) (hwt : session_waits.f kk (s.a k).ws = some (s.a k).ws) (hask : askerB (s.a k).id (s.a k).nx (s.a k).ak (s.a k).ws = true)
  (hhas : hasL (s.a k).ws rq = decide (s.got k rq = 0)) (hgot : s.got k rq ≠ 0 → s.got k rq = v) :
  Calls Try.prog 33 #[.pointer (some ⟨g, 0, none⟩), .agg #[.int .i64 ((k : Int) + 1), .int .i64 rq, .int .i64 v]] w fun e w' => e = .returned (.bool true) ∧ LayM base g w' { s with a := setA s.a k ⟨(s.a k).id, (s.a k).nx, ackP (s.a k).nx (takeL (s.a k).ws rq), takeL (s.a k).ws rq⟩, got := put2 s.got k rq v } ∧ Below base w0 w' := by
 have HL := hd h
 have HB := hd hB
 have hk4 : (k : Int) < 4 := by omega
 have hrq : i64 rq := by constructor <;> omega
 have hu62 := Try.underlying62
 have hu67 := Try.underlying67
 have hu50 := Try.underlying50
 have hu75 := Try.underlying75
 obtain ⟨A, c, hvw, hcc, hC⟩ := (h.ow k hk).reads
 have HC := hd hC
 obtain ⟨r, rfl⟩ : ∃ r : Nat, rq = (r : Int) := ⟨rq.toNat, by omega⟩
 have hr250 : (r : Int) < 250 := by omega
 have hr0 : (0 : Int) ≤ (r : Int) := by omega
 have HHAS := hd hhas
 have HGOT := hd hgot
 clear h hB hC hhas hgot
 go_enter Try.func33, Try.ntmps33
 go_wp2_with (((with_reducible refine gate_dst (N := 3) rfl ?_); refine box_event ?hg (N := 3) ?hd (cs := #[.int .i64 ((k : Int) + 1), .int .i64 (r : Int), .int .i64 v]) (t := 75) ?hr ?_; (case hd => rfl); (case hg => rfl); (case hr => first | (go_simp; done) | (go_simp; rfl)); intro gx hg w1 hbox hb; have HX := hd hbox; replace HC := hd (Kd.C_below HC.out hb); replace HB : Hd (Below base w0 w1) := hd (below_then HB.out HL.out.bs hb); replace HL := hd (HL.out.below hb); clear hg hbox hb; refine holdO ?_))
 refine ⟨?_⟩
 have e0 := (blk_cell HX.out 0).trans rfl
 go_wp2_with fail
 clear e0
 refine start_ (n := 17) (S := fun w' => w'.heap[g]? = some (.cells cs 67 (0, 0)) ∧ w'.heap[gx]? = some (.cells #[.int .i64 ((k : Int) + 1), .int .i64 (r : Int), .int .i64 v] 75 (0, 0))) (ds := [14, 15, 16]) #[false, false, false, false, false, false, false, false, false, false, false, false, false, false, false, false, false] (by kernel_rfl) rfl rfl ⟨HL.out.hg, HX.out⟩ (fun hHeld => ?_)
 refine with_tabW takes.tab2 takes.bits2 (fun HT_ HW_ => ?_)
 have HL0 := HL
 have HL : Hd (Lay base g w1.drew _ _ _ _ _ _ _ _) := hd (HL0.out.below (below_drew1 (Below.refl _ _)))
 have HB0 := HB
 have HB : Hd (Below base w0 w1.drew) := hd (below_drew1 HB0.out)
 have HX0 := HX
 have HX : Hd (w1.drew.heap[gx]? = _) := hd HX0.out
 have HC0 := HC
 have HC : Hd (Kd.C k70 w1.drew A (s.a k).ws.length (s.a k).ws) := hd (Kd.C_below HC0.out (below_drew1 (Below.refl _ _)))
 clear HC0 HL0 HB0 HX0
 have hbs : base ≤ w1.drew.heap.size := HL.out.bs
 generalize w1.drew = w2 at HL HB HX hHeld hbs HC ⊢
 refine pure_ (i := 0) (N := (some 13)) (v := ?_) (a' := ?_) #[true, false, false, false, false, false, false, false, false, false, false, false, false, false, false, false, false] rfl rfl (any_of HT_.out (by kernel_rfl)) (fun _ _ _ h => h) (Or.inl ⟨by rfl, ?_⟩) ?_ ?_
 rotate_left
 ·intro w'
  go_simp
  with_reducible rfl
 rotate_left
 ·simp only [Act.put, List.setIfInBounds_toArray, List.set_cons_zero, List.set_cons_succ, i64_w, i32_w]
  rfl
 refine pure_ (i := 1) (N := (some 14)) (v := ?_) (a' := ?_) #[true, true, false, false, false, false, false, false, false, false, false, false, false, false, false, false, false] rfl rfl (any_of HT_.out (by kernel_rfl)) (fun _ _ _ h => h) (Or.inl ⟨by rfl, ?_⟩) ?_ ?_
 rotate_left
 ·intro w'
  go_simp
  with_reducible rfl
 rotate_left
 ·simp only [Act.put, List.setIfInBounds_toArray, List.set_cons_zero, List.set_cons_succ, i64_w, i32_w]
  rfl
 refine pure_ (i := 2) (N := (some 15)) (v := ?_) (a' := ?_) #[true, true, true, false, false, false, false, false, false, false, false, false, false, false, false, false, false] rfl rfl (any_of HT_.out (by kernel_rfl)) (fun _ _ _ h => h) (Or.inl ⟨by rfl, ?_⟩) ?_ ?_
 rotate_left
 ·intro w'
  go_simp
  with_reducible rfl
 rotate_left
 ·simp only [Act.put, List.setIfInBounds_toArray, List.set_cons_zero, List.set_cons_succ, i64_w, i32_w]
  rfl
 refine pure_ (i := 3) (N := (some 16)) (v := ?_) (a' := ?_) #[true, true, true, true, false, false, false, false, false, false, false, false, false, false, false, false, false] rfl rfl (any_of HT_.out (by kernel_rfl)) (fun _ _ _ h => h) (Or.inl ⟨by rfl, ?_⟩) ?_ ?_
 rotate_left
 ·intro w'
  go_simp
  with_reducible rfl
 rotate_left
 ·simp only [Act.put, List.setIfInBounds_toArray, List.set_cons_zero, List.set_cons_succ, i64_w, i32_w]
  rfl
 refine pure_ (i := 4) (N := (some 17)) (v := ?_) (a' := ?_) #[true, true, true, true, true, false, false, false, false, false, false, false, false, false, false, false, false] rfl rfl (any_of HT_.out (by kernel_rfl)) (fun _ _ _ h => h) (Or.inl ⟨by rfl, ?_⟩) ?_ ?_
 rotate_left
 ·intro w'
  go_simp
  with_reducible rfl
 rotate_left
 ·simp only [Act.put, List.setIfInBounds_toArray, List.set_cons_zero, List.set_cons_succ, i64_w, i32_w]
  rfl
 refine take_ (i := 5) (N := (some 18)) (v := ?_) (a' := ?_) #[true, true, true, true, true, true, false, false, false, false, false, false, false, false, false, false, false] rfl rfl (take_ofW HT_.out HW_.out (by kernel_rfl)) (fun _ _ _ h => h) (Or.inl ⟨by rfl, ?_⟩) hHeld ?_ ?_
 rotate_left
 ·rintro w' ⟨s0, s1⟩
  have d0 := (blk_cell s0 (1 + k * 4)).trans (HL.out.cells.ca k hk).1
  have d1 := (blk_cell s0 (1 + k * 4 + 1)).trans (HL.out.cells.ca k hk).2.1
  have d2 := (blk_cell s0 (1 + k * 4 + 2)).trans (HL.out.cells.ca k hk).2.2.1
  have d3 := (blk_cell s0 (1 + k * 4 + 3)).trans ((HL.out.cells.ca k hk).2.2.2.trans (congrArg some hvw))
  go_simp
  with_reducible rfl
 rotate_left
 ·simp only [Act.put, List.setIfInBounds_toArray, List.set_cons_zero, List.set_cons_succ, i64_w, i32_w]
  rfl
 refine pure_ (i := 6) (N := (some 19)) (v := ?_) (a' := ?_) #[true, true, true, true, true, true, true, false, false, false, false, false, false, false, false, false, false] rfl rfl (any_of HT_.out (by kernel_rfl)) (fun _ _ _ h => h) (Or.inl ⟨by rfl, ?_⟩) ?_ ?_
 rotate_left
 ·intro w'
  go_simp
  with_reducible rfl
 rotate_left
 ·simp only [Act.put, List.setIfInBounds_toArray, List.set_cons_zero, List.set_cons_succ, i64_w, i32_w]
  rfl
 refine take_ (i := 7) (N := (some 20)) (v := ?_) (a' := ?_) #[true, true, true, true, true, true, true, true, false, false, false, false, false, false, false, false, false] rfl rfl (take_ofW HT_.out HW_.out (by kernel_rfl)) (fun _ _ _ h => h) (Or.inl ⟨by rfl, ?_⟩) hHeld ?_ ?_
 rotate_left
 ·rintro w' ⟨s0, s1⟩
  have e0 := (blk_cell s1 0).trans rfl
  have e1 := (blk_cell s1 1).trans rfl
  have e2 := (blk_cell s1 2).trans rfl
  go_simp
  with_reducible rfl
 rotate_left
 ·simp only [Act.put, List.setIfInBounds_toArray, List.set_cons_zero, List.set_cons_succ, i64_w, i32_w]
  rfl
 refine join_ (fuel' := 3) kakes16 (fun p : Nat × Option Addr × Nat => [(21, .tuple #[.agg #[.int .i64 (s.a k).id, .int .i64 (s.a k).nx, .int .i64 (ackP (s.a k).nx (takeL (s.a k).ws (r : Int))), .slice p.2.1 (takeL (s.a k).ws (r : Int)).length p.2.2], .bool (hasL (s.a k).ws (r : Int)), .int .i64 0]), (12, .tuple #[.agg #[.int .i64 (s.a k).id, .int .i64 (s.a k).nx, .int .i64 (ackP (s.a k).nx (takeL (s.a k).ws (r : Int))), .slice p.2.1 (takeL (s.a k).ws (r : Int)).length p.2.2], .bool (hasL (s.a k).ws (r : Int)), .int .i64 0]), (22, .agg #[.int .i64 (s.a k).id, .int .i64 (s.a k).nx, .int .i64 (ackP (s.a k).nx (takeL (s.a k).ws (r : Int))), .slice p.2.1 (takeL (s.a k).ws (r : Int)).length p.2.2]), (23, .bool (hasL (s.a k).ws (r : Int))), (24, .int .i64 0), (6, .pointer (some ⟨p.1, 0, none⟩))]) (fun p w' => w'.heap[p.1]? = some (.cells #[.int .i64 0, .int .i64 0, .int .i64 0, .slice none 0 0] 50 (0, 0)) ∧ base ≤ p.1 ∧ Own k70 70 base w' (.slice p.2.1 (takeL (s.a k).ws (r : Int)).length p.2.2) (takeL (s.a k).ws (r : Int)) ∧ Below w2.heap.size w2 w') (fun p w4 hF => ?_) (fun hcont => ?_)
 rotate_left
 ·refine two_ (i := 8) (j := 13) (Ni := some 21) (Nj := some 6) #[true, true, true, true, true, true, true, true, true, false, false, false, false, false, false, false, false] #[true, true, true, true, true, true, true, true, false, false, false, false, false, true, false, false, false] rfl rfl rfl rfl (two_of HT_.out (by kernel_rfl)) (by decide) (by decide) (fun K hK => ?_) (fun K hK => ?_)
  ·refine goes_ Try.func23 (by kernel_rfl) rfl #[.agg #[.int .i64 (s.a k).id, .int .i64 (s.a k).nx, .int .i64 (s.a k).ak, .slice A (s.a k).ws.length c], .int .i64 (r : Int)] (by rfl) rfl rfl (by (try simp only [List.map_toArray, List.map_cons, List.map_nil]); first | done | rfl) ?_
   refine (take_good (w := w2) (Kd.C_below HC.out (Below.refl w2.heap.size w2)) hcc hak hrq hlw hwt hask).mono ?_
   rintro e w3 ⟨A1, c1, rfl, hR, b2⟩
   refine ⟨_, rfl, ?_⟩
   have b1 := (Below.refl w2.heap.size w2)
   have hR1 := hR.lower (base := base) (Nat.le_trans hbs b1.size)
   have b3 := below_then b1 b1.size b2
   refine hK.out _ _ ⟨(blk_below HL.out.hg b2), blk_below HX.out b2⟩ (fun hHeld => ?_)
   clear hK K
   refine norm_ (a' := ?_) ?_ ?_
   rotate_left
   ·show Act.put _ (some 21) _ = _
    simp only [Act.put, List.setIfInBounds_toArray, List.set_cons_zero, List.set_cons_succ, i64_w, i32_w]
    rfl
   refine pure_ (i := 9) (N := some 12) (v := ?_) (a' := ?_) #[true, true, true, true, true, true, true, true, true, true, false, false, false, false, false, false, false] rfl rfl (any_of HT_.out (by kernel_rfl)) (fun _ _ _ h => h) (Or.inl ⟨by rfl, ?_⟩) ?_ ?_
   rotate_left
   ·intro w'
    go_simp
    with_reducible rfl
   rotate_left
   ·simp only [Act.put, List.setIfInBounds_toArray, List.set_cons_zero, List.set_cons_succ, i64_w, i32_w]
    rfl
   refine pure_ (i := 10) (N := some 22) (v := ?_) (a' := ?_) #[true, true, true, true, true, true, true, true, true, true, true, false, false, false, false, false, false] rfl rfl (any_of HT_.out (by kernel_rfl)) (fun _ _ _ h => h) (Or.inl ⟨by rfl, ?_⟩) ?_ ?_
   rotate_left
   ·intro w'
    go_simp
    with_reducible rfl
   rotate_left
   ·simp only [Act.put, List.setIfInBounds_toArray, List.set_cons_zero, List.set_cons_succ, i64_w, i32_w]
    rfl
   refine pure_ (i := 11) (N := some 23) (v := ?_) (a' := ?_) #[true, true, true, true, true, true, true, true, true, true, true, true, false, false, false, false, false] rfl rfl (any_of HT_.out (by kernel_rfl)) (fun _ _ _ h => h) (Or.inl ⟨by rfl, ?_⟩) ?_ ?_
   rotate_left
   ·intro w'
    go_simp
    with_reducible rfl
   rotate_left
   ·simp only [Act.put, List.setIfInBounds_toArray, List.set_cons_zero, List.set_cons_succ, i64_w, i32_w]
    rfl
   refine pure_ (i := 12) (N := some 24) (v := ?_) (a' := ?_) #[true, true, true, true, true, true, true, true, true, true, true, true, true, false, false, false, false] rfl rfl (any_of HT_.out (by kernel_rfl)) (fun _ _ _ h => h) (Or.inl ⟨by rfl, ?_⟩) ?_ ?_
   rotate_left
   ·intro w'
    go_simp
    with_reducible rfl
   rotate_left
   ·simp only [Act.put, List.setIfInBounds_toArray, List.set_cons_zero, List.set_cons_succ, i64_w, i32_w]
    rfl
   refine one_ (i := 13) (N := some 6) kakes16 rfl rfl (one_of HT_.out (by kernel_rfl)) (by decide) (fun K hK => ?_)
   refine value_ (w1 := w3.alloc (.cells #[.int .i64 0, .int .i64 0, .int .i64 0, .slice none 0 0] 50)) (v := .pointer (some ⟨w3.heap.size, 0, none⟩)) (by rfl) rfl ?_ ?_
   ·go_simp
    first | done | rfl
   have b4 := below_alloc (Below.refl w3.heap.size w3) (.cells #[.int .i64 0, .int .i64 0, .int .i64 0, .slice none 0 0] 50)
   have b5 := below_then b3 b3.size b4
   refine hK.out _ _ ⟨blk_below (blk_below HL.out.hg b2) b4, blk_below (blk_below HX.out b2) b4⟩ (fun hHeld => ?_)
   refine norm_ ?_ (hcont ⟨w3.heap.size, A1, c1⟩ _ ⟨blk_new w3 _, Nat.le_trans hbs b3.size, hR1.turn (turn_below (e := 99) (Nat.le_trans hbs b3.size) b4) (fun _ hq => (by have := k70_E _ hq; omega)), b5⟩)
   simp only [putAll, Act.put, List.setIfInBounds_toArray, List.set_cons_zero, List.set_cons_succ]
  ·refine value_ (w1 := w2.alloc (.cells #[.int .i64 0, .int .i64 0, .int .i64 0, .slice none 0 0] 50)) (v := .pointer (some ⟨w2.heap.size, 0, none⟩)) (by rfl) rfl ?_ ?_
   ·go_simp
    first | done | rfl
   have b0 := below_alloc (Below.refl w2.heap.size w2) (.cells #[.int .i64 0, .int .i64 0, .int .i64 0, .slice none 0 0] 50)
   have hnew := blk_new w2 (.cells #[.int .i64 0, .int .i64 0, .int .i64 0, .slice none 0 0] 50)
   refine hK.out _ _ ⟨blk_below HL.out.hg b0, blk_below HX.out b0⟩ (fun hHeld => ?_)
   clear hK K
   refine norm_ (a' := ?_) ?_ ?_
   rotate_left
   ·show Act.put _ (some 6) _ = _
    simp only [Act.put, List.setIfInBounds_toArray, List.set_cons_zero, List.set_cons_succ, i64_w, i32_w]
    rfl
   refine one_ (i := 8) (N := some 21) #[true, true, true, true, true, true, true, true, true, false, false, false, false, true, false, false, false] rfl rfl (one_of HT_.out (by kernel_rfl)) (by decide) (fun K hK => ?_)
   refine goes_ Try.func23 (by kernel_rfl) rfl #[.agg #[.int .i64 (s.a k).id, .int .i64 (s.a k).nx, .int .i64 (s.a k).ak, .slice A (s.a k).ws.length c], .int .i64 (r : Int)] (by rfl) rfl rfl (by (try simp only [List.map_toArray, List.map_cons, List.map_nil]); first | done | rfl) ?_
   refine (take_good (w := _) (Kd.C_below HC.out b0) hcc hak hrq hlw hwt hask).mono ?_
   rintro e w4 ⟨A1, c1, rfl, hR, b2⟩
   refine ⟨_, rfl, ?_⟩
   have b1 := b0
   have hR1 := hR.lower (base := base) (Nat.le_trans hbs b1.size)
   have b3 := below_then b1 b1.size b2
   refine hK.out _ _ ⟨blk_below (blk_below HL.out.hg b0) b2, blk_below (blk_below HX.out b0) b2⟩ (fun hHeld => ?_)
   clear hK K
   refine norm_ (a' := ?_) ?_ ?_
   rotate_left
   ·show Act.put _ (some 21) _ = _
    simp only [Act.put, List.setIfInBounds_toArray, List.set_cons_zero, List.set_cons_succ, i64_w, i32_w]
    rfl
   refine pure_ (i := 9) (N := some 12) (v := ?_) (a' := ?_) #[true, true, true, true, true, true, true, true, true, true, false, false, false, true, false, false, false] rfl rfl (any_of HT_.out (by kernel_rfl)) (fun _ _ _ h => h) (Or.inl ⟨by rfl, ?_⟩) ?_ ?_
   rotate_left
   ·intro w'
    go_simp
    with_reducible rfl
   rotate_left
   ·simp only [Act.put, List.setIfInBounds_toArray, List.set_cons_zero, List.set_cons_succ, i64_w, i32_w]
    rfl
   refine pure_ (i := 10) (N := some 22) (v := ?_) (a' := ?_) #[true, true, true, true, true, true, true, true, true, true, true, false, false, true, false, false, false] rfl rfl (any_of HT_.out (by kernel_rfl)) (fun _ _ _ h => h) (Or.inl ⟨by rfl, ?_⟩) ?_ ?_
   rotate_left
   ·intro w'
    go_simp
    with_reducible rfl
   rotate_left
   ·simp only [Act.put, List.setIfInBounds_toArray, List.set_cons_zero, List.set_cons_succ, i64_w, i32_w]
    rfl
   refine pure_ (i := 11) (N := some 23) (v := ?_) (a' := ?_) #[true, true, true, true, true, true, true, true, true, true, true, true, false, true, false, false, false] rfl rfl (any_of HT_.out (by kernel_rfl)) (fun _ _ _ h => h) (Or.inl ⟨by rfl, ?_⟩) ?_ ?_
   rotate_left
   ·intro w'
    go_simp
    with_reducible rfl
   rotate_left
   ·simp only [Act.put, List.setIfInBounds_toArray, List.set_cons_zero, List.set_cons_succ, i64_w, i32_w]
    rfl
   refine pure_ (i := 12) (N := some 24) (v := ?_) (a' := ?_) kakes16 rfl rfl (any_of HT_.out (by kernel_rfl)) (fun _ _ _ h => h) (Or.inl ⟨by rfl, ?_⟩) ?_ ?_
   rotate_left
   ·intro w'
    go_simp
    with_reducible rfl
   rotate_left
   ·simp only [Act.put, List.setIfInBounds_toArray, List.set_cons_zero, List.set_cons_succ, i64_w, i32_w]
    rfl
   refine norm_ ?_ (hcont ⟨w2.heap.size, A1, c1⟩ _ ⟨blk_below hnew b2, hbs, hR1, b3⟩)
   simp only [putAll, Act.put, List.setIfInBounds_toArray, List.set_cons_zero, List.set_cons_succ]
 obtain ⟨gb, A1, c1⟩ := p
 obtain ⟨hgb, hgbb, hR, b⟩ := hF
 simp only at hgb hgbb hR
 refine norm_ (a' := ?_) ?_ ?_
 rotate_left
 ·simp only [putAll, Act.put, List.setIfInBounds_toArray, List.set_cons_zero, List.set_cons_succ]
  rfl
 replace HB : Hd (Below base w0 w4) := hd (below_then HB.out HL.out.bs b)
 replace HL := hd (HL.out.below b)
 replace HX := hd (blk_below HX.out b)
 refine last_ (i := 14) (N := none) #[true, true, true, true, true, true, true, true, true, true, true, true, true, true, true, false, false] rfl rfl (one_of HT_.out (by kernel_rfl)) (by decide) (fun K hK => ?_)
 refine store_row_ 50 (.tmp 6) (.tmp 22) rfl (by rfl) rfl gb #[.int .i64 (s.a k).id, .int .i64 (s.a k).nx, .int .i64 (ackP (s.a k).nx (takeL (s.a k).ws (r : Int))), .slice A1 (takeL (s.a k).ws (r : Int)).length c1] rfl rfl 50 _ hgb (by kernel_rfl) rfl (by simp [Value.oneCell']) ?_
 have T5 := turn_row hgb hgbb #[.int .i64 (s.a k).id, .int .i64 (s.a k).nx, .int .i64 (ackP (s.a k).nx (takeL (s.a k).ws (r : Int))), .slice A1 (takeL (s.a k).ws (r : Int)).length c1]
 have hg5 := hd (setRow_heap w4 gb _ #[.int .i64 (s.a k).id, .int .i64 (s.a k).nx, .int .i64 (ackP (s.a k).nx (takeL (s.a k).ws (r : Int))), .slice A1 (takeL (s.a k).ws (r : Int)).length c1] 50 (0, 0) hgb)
 have hR5 := hd (hR.turn T5 (fun _ hq => (by have := k70_E _ hq; omega)))
 replace HL := hd (HL.out.turn50 T5)
 replace HB := hd (HB.out.trans T5.below)
 replace HX := hd (T5.keep _ _ _ HX.out (by decide))
 refine hK.out _ _ ?_
 clear hK K T5 hR hgb b
 generalize w4.setRow gb #[.int .i64 (s.a k).id, .int .i64 (s.a k).nx, .int .i64 (ackP (s.a k).nx (takeL (s.a k).ws (r : Int))), .slice A1 (takeL (s.a k).ws (r : Int)).length c1] = w5 at HL HB HX hg5 hR5 ⊢
 refine pure_ (i := 15) (N := some 7) (v := ?_) (a' := ?_) #[true, true, true, true, true, true, true, true, true, true, true, true, true, true, true, true, false] rfl rfl (any_of HT_.out (by kernel_rfl)) (fun _ _ _ h => h) (Or.inl ⟨by rfl, ?_⟩) ?_ ?_
 rotate_left
 ·intro w'
  go_simp
  with_reducible rfl
 rotate_left
 ·simp only [Act.put, List.setIfInBounds_toArray, List.set_cons_zero, List.set_cons_succ, i64_w, i32_w]
  rfl
 refine pure_ (i := 16) (N := some 8) (v := ?_) (a' := ?_) #[true, true, true, true, true, true, true, true, true, true, true, true, true, true, true, true, true] rfl rfl (any_of HT_.out (by kernel_rfl)) (fun _ _ _ h => h) (Or.inl ⟨by rfl, ?_⟩) ?_ ?_
 rotate_left
 ·intro w'
  go_simp
  with_reducible rfl
 rotate_left
 ·simp only [Act.put, List.setIfInBounds_toArray, List.set_cons_zero, List.set_cons_succ, i64_w, i32_w]
  rfl
 refine done_ (done_of HT_.out (by kernel_rfl)) ?_
 clear HT_ HW_ HC

 have hv2 := hk4
 by_cases hz : s.got k (r : Int) = 0
 ·have hwas : hasL (s.a k).ws (r : Int) = true := by rw [HHAS.out]; simp [hz]
  rw [hwas]
  have HZ := hd hz
  clear hz hwas
  go_wp2_with fail
  refine start_ (n := 36) (S := fun w' => w'.heap[g]? = some (.cells cs 67 (0, 0)) ∧ w'.heap[gx]? = some (.cells #[.int .i64 ((k : Int) + 1), .int .i64 (r : Int), .int .i64 v] 75 (0, 0)) ∧ w'.heap[bf k]? = some (.cells (row250 (s.got k)) 3 (0, 0)) ∧ w'.heap[gb]? = some (.cells #[.int .i64 (s.a k).id, .int .i64 (s.a k).nx, .int .i64 (ackP (s.a k).nx (takeL (s.a k).ws (r : Int))), .slice A1 (takeL (s.a k).ws (r : Int)).length c1] 50 (0, 0))) (ds := []) kakes72 (by kernel_rfl) rfl rfl ⟨HL.out.hg, HX.out, (HL.out.og k hk).2, hg5.out⟩ (fun hHeld => ?_)
  refine with_tabW takes.tab3 takes.bits3 (fun HT_ HW_ => ?_)
  have HL0 := HL
  have HL : Hd (Lay base g w5.drew _ _ _ _ _ _ _ _) := hd (HL0.out.below (below_drew1 (Below.refl _ _)))
  have HB0 := HB
  have HB : Hd (Below base w0 w5.drew) := hd (below_drew1 HB0.out)
  have HX0 := HX
  have HX : Hd (w5.drew.heap[gx]? = _) := hd HX0.out
  have hg0 := hg5
  have hg5 : Hd (w5.drew.heap[gb]? = _) := hd hg0.out
  have hR0 := hR5
  have hR5 : Hd (Own k70 70 base w5.drew _ _) := hd (hR0.out.turn (turn_below (e := 99) HL0.out.bs (below_drew1 (Below.refl _ _))) (fun _ hq => (by have := k70_E _ hq; omega)))
  clear hg0 hR0 HL0 HB0 HX0
  have hbs : base ≤ w5.drew.heap.size := HL.out.bs
  generalize w5.drew = w6 at HL HB HX hHeld hbs hg5 hR5 ⊢
  clear hbs
  refine pure_ (i := 0) (N := (some 25)) (v := ?_) (a' := ?_) kakes71 rfl rfl (any_of HT_.out (by kernel_rfl)) (fun _ _ _ h => h) (Or.inl ⟨by rfl, ?_⟩) ?_ ?_
  rotate_left
  ·intro w'
   go_simp
   with_reducible rfl
  rotate_left
  ·simp only [Act.put, List.setIfInBounds_toArray, List.set_cons_zero, List.set_cons_succ, i64_w, i32_w]
   rfl
  refine pure_ (i := 1) (N := (some 26)) (v := ?_) (a' := ?_) kakes70 rfl rfl (any_of HT_.out (by kernel_rfl)) (fun _ _ _ h => h) (Or.inl ⟨by rfl, ?_⟩) ?_ ?_
  rotate_left
  ·intro w'
   go_simp
   with_reducible rfl
  rotate_left
  ·simp only [Act.put, List.setIfInBounds_toArray, List.set_cons_zero, List.set_cons_succ, i64_w, i32_w]
   rfl
  refine pure_ (i := 2) (N := (some 27)) (v := ?_) (a' := ?_) kakes69 rfl rfl (any_of HT_.out (by kernel_rfl)) (fun _ _ _ h => h) (Or.inl ⟨by rfl, ?_⟩) ?_ ?_
  rotate_left
  ·intro w'
   go_simp
   with_reducible rfl
  rotate_left
  ·simp only [Act.put, List.setIfInBounds_toArray, List.set_cons_zero, List.set_cons_succ, i64_w, i32_w]
   rfl
  refine pure_ (i := 3) (N := (some 28)) (v := ?_) (a' := ?_) kakes68 rfl rfl (any_of HT_.out (by kernel_rfl)) (fun _ _ _ h => h) (Or.inl ⟨by rfl, ?_⟩) ?_ ?_
  rotate_left
  ·intro w'
   go_simp
   with_reducible rfl
  rotate_left
  ·simp only [Act.put, List.setIfInBounds_toArray, List.set_cons_zero, List.set_cons_succ, i64_w, i32_w]
   rfl
  refine pure_ (i := 4) (N := (some 29)) (v := ?_) (a' := ?_) kakes67 rfl rfl (any_of HT_.out (by kernel_rfl)) (fun _ _ _ h => h) (Or.inl ⟨by rfl, ?_⟩) ?_ ?_
  rotate_left
  ·intro w'
   go_simp
   with_reducible rfl
  rotate_left
  ·simp only [Act.put, List.setIfInBounds_toArray, List.set_cons_zero, List.set_cons_succ, i64_w, i32_w]
   rfl
  refine pure_ (i := 5) (N := (some 30)) (v := ?_) (a' := ?_) kakes66 rfl rfl (any_of HT_.out (by kernel_rfl)) (fun _ _ _ h => h) (Or.inl ⟨by rfl, ?_⟩) ?_ ?_
  rotate_left
  ·intro w'
   go_simp
   with_reducible rfl
  rotate_left
  ·simp only [Act.put, List.setIfInBounds_toArray, List.set_cons_zero, List.set_cons_succ, i64_w, i32_w]
   rfl
  refine pure_ (i := 6) (N := (some 31)) (v := ?_) (a' := ?_) kakes65 rfl rfl (any_of HT_.out (by kernel_rfl)) (fun _ _ _ h => h) (Or.inl ⟨by rfl, ?_⟩) ?_ ?_
  rotate_left
  ·intro w'
   go_simp
   with_reducible rfl
  rotate_left
  ·simp only [Act.put, List.setIfInBounds_toArray, List.set_cons_zero, List.set_cons_succ, i64_w, i32_w]
   rfl
  refine pure_ (i := 7) (N := (some 32)) (v := ?_) (a' := ?_) kakes64 rfl rfl (any_of HT_.out (by kernel_rfl)) (fun _ _ _ h => h) (Or.inl ⟨by rfl, ?_⟩) ?_ ?_
  rotate_left
  ·intro w'
   go_simp
   with_reducible rfl
  rotate_left
  ·simp only [Act.put, List.setIfInBounds_toArray, List.set_cons_zero, List.set_cons_succ, i64_w, i32_w]
   rfl
  refine pure_ (i := 8) (N := (some 33)) (v := ?_) (a' := ?_) kakes63 rfl rfl (any_of HT_.out (by kernel_rfl)) (fun _ _ _ h => h) (Or.inl ⟨by rfl, ?_⟩) ?_ ?_
  rotate_left
  ·intro w'
   go_simp
   with_reducible rfl
  rotate_left
  ·simp only [Act.put, List.setIfInBounds_toArray, List.set_cons_zero, List.set_cons_succ, i64_w, i32_w]
   rfl
  refine take_ (i := 9) (N := (some 34)) (v := ?_) (a' := ?_) kakes62 rfl rfl (take_ofW HT_.out HW_.out (by kernel_rfl)) (fun _ _ _ h => h) (Or.inl ⟨by rfl, ?_⟩) hHeld ?_ ?_
  rotate_left
  ·rintro w' ⟨s0, s1, s2, s3⟩
   have f0 := (blk_cell s0 (23 + k)).trans (HL.out.cells.cf k hk)
   unfold arrC at f0
   go_simp
   with_reducible rfl
  rotate_left
  ·simp only [Act.put, List.setIfInBounds_toArray, List.set_cons_zero, List.set_cons_succ, i64_w, i32_w]
   rfl
  refine pure_ (i := 10) (N := (some 35)) (v := ?_) (a' := ?_) kakes61 rfl rfl (any_of HT_.out (by kernel_rfl)) (fun _ _ _ h => h) (Or.inl ⟨by rfl, ?_⟩) ?_ ?_
  rotate_left
  ·intro w'
   go_simp
   with_reducible rfl
  rotate_left
  ·simp only [Act.put, List.setIfInBounds_toArray, List.set_cons_zero, List.set_cons_succ, i64_w, i32_w]
   rfl
  refine take_ (i := 11) (N := (some 36)) (v := ?_) (a' := ?_) kakes60 rfl rfl (take_ofW HT_.out HW_.out (by kernel_rfl)) (fun _ _ _ h => h) (Or.inl ⟨by rfl, ?_⟩) hHeld ?_ ?_
  rotate_left
  ·rintro w' ⟨s0, s1, s2, s3⟩
   have e0 := (blk_cell s1 0).trans rfl
   have e1 := (blk_cell s1 1).trans rfl
   have e2 := (blk_cell s1 2).trans rfl
   go_simp
   with_reducible rfl
  rotate_left
  ·simp only [Act.put, List.setIfInBounds_toArray, List.set_cons_zero, List.set_cons_succ, i64_w, i32_w]
   rfl
  refine pure_ (i := 12) (N := (some 37)) (v := ?_) (a' := ?_) kakes59 rfl rfl (any_of HT_.out (by kernel_rfl)) (fun _ _ _ h => h) (Or.inl ⟨by rfl, ?_⟩) ?_ ?_
  rotate_left
  ·intro w'
   go_simp
   with_reducible rfl
  rotate_left
  ·simp only [Act.put, List.setIfInBounds_toArray, List.set_cons_zero, List.set_cons_succ, i64_w, i32_w]
   rfl
  refine take_ (i := 13) (N := (some 38)) (v := ?_) (a' := ?_) kakes58 rfl rfl (take_ofW HT_.out HW_.out (by kernel_rfl)) (fun _ _ _ h => h) (Or.inl ⟨by rfl, ?_⟩) hHeld ?_ ?_
  rotate_left
  ·rintro w' ⟨s0, s1, s2, s3⟩
   have f1 := (blk_cell s2 r).trans (row250_at _ r (by omega))
   rw [HZ.out] at f1
   go_simp
   with_reducible rfl
  rotate_left
  ·simp only [Act.put, List.setIfInBounds_toArray, List.set_cons_zero, List.set_cons_succ, i64_w, i32_w]
   rfl
  refine pure_ (i := 14) (N := (some 39)) (v := ?_) (a' := ?_) kakes57 rfl rfl (any_of HT_.out (by kernel_rfl)) (fun _ _ _ h => h) (Or.inl ⟨by rfl, ?_⟩) ?_ ?_
  rotate_left
  ·intro w'
   go_simp
   with_reducible rfl
  rotate_left
  ·simp only [Act.put, List.setIfInBounds_toArray, List.set_cons_zero, List.set_cons_succ, i64_w, i32_w]
   rfl
  refine pure_ (i := 15) (N := (some 40)) (v := ?_) (a' := ?_) kakes56 rfl rfl (any_of HT_.out (by kernel_rfl)) (fun _ _ _ h => h) (Or.inl ⟨by rfl, ?_⟩) ?_ ?_
  rotate_left
  ·intro w'
   go_simp
   with_reducible rfl
  rotate_left
  ·simp only [Act.put, List.setIfInBounds_toArray, List.set_cons_zero, List.set_cons_succ, i64_w, i32_w]
   rfl
  refine pure_ (i := 16) (N := (some 41)) (v := ?_) (a' := ?_) kakes55 rfl rfl (any_of HT_.out (by kernel_rfl)) (fun _ _ _ h => h) (Or.inl ⟨by rfl, ?_⟩) ?_ ?_
  rotate_left
  ·intro w'
   go_simp
   with_reducible rfl
  rotate_left
  ·simp only [Act.put, List.setIfInBounds_toArray, List.set_cons_zero, List.set_cons_succ, i64_w, i32_w]
   rfl
  refine pure_ (i := 17) (N := (some 42)) (v := ?_) (a' := ?_) kakes54 rfl rfl (any_of HT_.out (by kernel_rfl)) (fun _ _ _ h => h) (Or.inl ⟨by rfl, ?_⟩) ?_ ?_
  rotate_left
  ·intro w'
   go_simp
   with_reducible rfl
  rotate_left
  ·simp only [Act.put, List.setIfInBounds_toArray, List.set_cons_zero, List.set_cons_succ, i64_w, i32_w]
   rfl
  refine pure_ (i := 18) (N := (some 43)) (v := ?_) (a' := ?_) kakes53 rfl rfl (any_of HT_.out (by kernel_rfl)) (fun _ _ _ h => h) (Or.inl ⟨by rfl, ?_⟩) ?_ ?_
  rotate_left
  ·intro w'
   go_simp
   with_reducible rfl
  rotate_left
  ·simp only [Act.put, List.setIfInBounds_toArray, List.set_cons_zero, List.set_cons_succ, i64_w, i32_w]
   rfl
  refine pure_ (i := 19) (N := (some 44)) (v := ?_) (a' := ?_) kakes52 rfl rfl (any_of HT_.out (by kernel_rfl)) (fun _ _ _ h => h) (Or.inl ⟨by rfl, ?_⟩) ?_ ?_
  rotate_left
  ·intro w'
   go_simp
   with_reducible rfl
  rotate_left
  ·simp only [Act.put, List.setIfInBounds_toArray, List.set_cons_zero, List.set_cons_succ, i64_w, i32_w]
   rfl
  refine pure_ (i := 20) (N := (some 45)) (v := ?_) (a' := ?_) kakes51 rfl rfl (any_of HT_.out (by kernel_rfl)) (fun _ _ _ h => h) (Or.inl ⟨by rfl, ?_⟩) ?_ ?_
  rotate_left
  ·intro w'
   go_simp
   with_reducible rfl
  rotate_left
  ·simp only [Act.put, List.setIfInBounds_toArray, List.set_cons_zero, List.set_cons_succ, i64_w, i32_w]
   rfl
  refine pure_ (i := 21) (N := (some 46)) (v := undef) (a' := ?_) kakes50 rfl rfl (any_of HT_.out (by kernel_rfl)) (fun _ _ _ h => h) (Or.inr ⟨by rfl, rfl⟩) ?_ ?_
  rotate_left
  ·simp only [Act.put, List.setIfInBounds_toArray, List.set_cons_zero, List.set_cons_succ, i64_w, i32_w]
   rfl
  refine pure_ (i := 22) (N := (some 47)) (v := undef) (a' := ?_) kakes49 rfl rfl (any_of HT_.out (by kernel_rfl)) (fun _ _ _ h => h) (Or.inr ⟨by rfl, rfl⟩) ?_ ?_
  rotate_left
  ·simp only [Act.put, List.setIfInBounds_toArray, List.set_cons_zero, List.set_cons_succ, i64_w, i32_w]
   rfl
  refine pure_ (i := 23) (N := (some 48)) (v := undef) (a' := ?_) kakes48 rfl rfl (any_of HT_.out (by kernel_rfl)) (fun _ _ _ h => h) (Or.inr ⟨by rfl, rfl⟩) ?_ ?_
  rotate_left
  ·simp only [Act.put, List.setIfInBounds_toArray, List.set_cons_zero, List.set_cons_succ, i64_w, i32_w]
   rfl
  refine pure_ (i := 24) (N := (some 49)) (v := undef) (a' := ?_) kakes47 rfl rfl (any_of HT_.out (by kernel_rfl)) (fun _ _ _ h => h) (Or.inr ⟨by rfl, rfl⟩) ?_ ?_
  rotate_left
  ·simp only [Act.put, List.setIfInBounds_toArray, List.set_cons_zero, List.set_cons_succ, i64_w, i32_w]
   rfl
  refine pure_ (i := 25) (N := (some 50)) (v := undef) (a' := ?_) kakes46 rfl rfl (any_of HT_.out (by kernel_rfl)) (fun _ _ _ h => h) (Or.inr ⟨by rfl, rfl⟩) ?_ ?_
  rotate_left
  ·simp only [Act.put, List.setIfInBounds_toArray, List.set_cons_zero, List.set_cons_succ, i64_w, i32_w]
   rfl
  refine pure_ (i := 26) (N := (some 51)) (v := undef) (a' := ?_) kakes45 rfl rfl (any_of HT_.out (by kernel_rfl)) (fun _ _ _ h => h) (Or.inr ⟨by rfl, rfl⟩) ?_ ?_
  rotate_left
  ·simp only [Act.put, List.setIfInBounds_toArray, List.set_cons_zero, List.set_cons_succ, i64_w, i32_w]
   rfl
  refine pure_ (i := 27) (N := (some 52)) (v := undef) (a' := ?_) kakes44 rfl rfl (any_of HT_.out (by kernel_rfl)) (fun _ _ _ h => h) (Or.inr ⟨by rfl, rfl⟩) ?_ ?_
  rotate_left
  ·simp only [Act.put, List.setIfInBounds_toArray, List.set_cons_zero, List.set_cons_succ, i64_w, i32_w]
   rfl
  refine pure_ (i := 28) (N := (some 53)) (v := undef) (a' := ?_) kakes43 rfl rfl (any_of HT_.out (by kernel_rfl)) (fun _ _ _ h => h) (Or.inr ⟨by rfl, rfl⟩) ?_ ?_
  rotate_left
  ·simp only [Act.put, List.setIfInBounds_toArray, List.set_cons_zero, List.set_cons_succ, i64_w, i32_w]
   rfl
  refine pure_ (i := 29) (N := (some 54)) (v := undef) (a' := ?_) kakes42 rfl rfl (any_of HT_.out (by kernel_rfl)) (fun _ _ _ h => h) (Or.inr ⟨by rfl, rfl⟩) ?_ ?_
  rotate_left
  ·simp only [Act.put, List.setIfInBounds_toArray, List.set_cons_zero, List.set_cons_succ, i64_w, i32_w]
   rfl
  refine pure_ (i := 30) (N := (some 55)) (v := undef) (a' := ?_) kakes41 rfl rfl (any_of HT_.out (by kernel_rfl)) (fun _ _ _ h => h) (Or.inr ⟨by rfl, rfl⟩) ?_ ?_
  rotate_left
  ·simp only [Act.put, List.setIfInBounds_toArray, List.set_cons_zero, List.set_cons_succ, i64_w, i32_w]
   rfl
  refine pure_ (i := 31) (N := (some 56)) (v := undef) (a' := ?_) kakes40 rfl rfl (any_of HT_.out (by kernel_rfl)) (fun _ _ _ h => h) (Or.inr ⟨by rfl, rfl⟩) ?_ ?_
  rotate_left
  ·simp only [Act.put, List.setIfInBounds_toArray, List.set_cons_zero, List.set_cons_succ, i64_w, i32_w]
   rfl
  refine pure_ (i := 32) (N := (some 57)) (v := undef) (a' := ?_) kakes39 rfl rfl (any_of HT_.out (by kernel_rfl)) (fun _ _ _ h => h) (Or.inr ⟨by rfl, rfl⟩) ?_ ?_
  rotate_left
  ·simp only [Act.put, List.setIfInBounds_toArray, List.set_cons_zero, List.set_cons_succ, i64_w, i32_w]
   rfl
  refine pure_ (i := 33) (N := (some 58)) (v := undef) (a' := ?_) kakes38 rfl rfl (any_of HT_.out (by kernel_rfl)) (fun _ _ _ h => h) (Or.inr ⟨by rfl, rfl⟩) ?_ ?_
  rotate_left
  ·simp only [Act.put, List.setIfInBounds_toArray, List.set_cons_zero, List.set_cons_succ, i64_w, i32_w]
   rfl
  refine pure_ (i := 34) (N := (some 59)) (v := ?_) (a' := ?_) kakes37 rfl rfl (any_of HT_.out (by kernel_rfl)) (fun _ _ _ h => h) (Or.inl ⟨by rfl, ?_⟩) ?_ ?_
  rotate_left
  ·intro w'
   go_simp
   with_reducible rfl
  rotate_left
  ·simp only [Act.put, List.setIfInBounds_toArray, List.set_cons_zero, List.set_cons_succ, i64_w, i32_w]
   rfl
  refine pure_ (i := 35) (N := (some 60)) (v := ?_) (a' := ?_) kakes36 rfl rfl (any_of HT_.out (by kernel_rfl)) (fun _ _ _ h => h) (Or.inl ⟨by rfl, ?_⟩) ?_ ?_
  rotate_left
  ·intro w'
   go_simp
   with_reducible rfl
  rotate_left
  ·simp only [Act.put, List.setIfInBounds_toArray, List.set_cons_zero, List.set_cons_succ, i64_w, i32_w]
   rfl
  refine done_ (done_of HT_.out (by kernel_rfl)) ?_
  clear HT_ HW_
  go_wp2_with fail
  refine start_ (n := 7) (S := fun w' => w'.heap[g]? = some (.cells cs 67 (0, 0)) ∧ w'.heap[gx]? = some (.cells #[.int .i64 ((k : Int) + 1), .int .i64 (r : Int), .int .i64 v] 75 (0, 0)) ∧ w'.heap[bf k]? = some (.cells (row250 (s.got k)) 3 (0, 0)) ∧ w'.heap[gb]? = some (.cells #[.int .i64 (s.a k).id, .int .i64 (s.a k).nx, .int .i64 (ackP (s.a k).nx (takeL (s.a k).ws (r : Int))), .slice A1 (takeL (s.a k).ws (r : Int)).length c1] 50 (0, 0))) (ds := [6]) #[false, false, false, false, false, false, false] (by kernel_rfl) rfl rfl ⟨HL.out.hg, HX.out, (HL.out.og k hk).2, hg5.out⟩ (fun hHeld => ?_)
  refine with_tabW takes.tab5 takes.bits5 (fun HT_ HW_ => ?_)
  have HL0 := HL
  have HL : Hd (Lay base g w6.drew _ _ _ _ _ _ _ _) := hd (HL0.out.below (below_drew1 (Below.refl _ _)))
  have HB0 := HB
  have HB : Hd (Below base w0 w6.drew) := hd (below_drew1 HB0.out)
  have HX0 := HX
  have HX : Hd (w6.drew.heap[gx]? = _) := hd HX0.out
  have hg0 := hg5
  have hg5 : Hd (w6.drew.heap[gb]? = _) := hd hg0.out
  have hR0 := hR5
  have hR5 : Hd (Own k70 70 base w6.drew _ _) := hd (hR0.out.turn (turn_below (e := 99) HL0.out.bs (below_drew1 (Below.refl _ _))) (fun _ hq => (by have := k70_E _ hq; omega)))
  clear hg0 hR0 HL0 HB0 HX0
  have hbs : base ≤ w6.drew.heap.size := HL.out.bs
  generalize w6.drew = w6b at HL HB HX hHeld hbs hg5 hR5 ⊢
  clear hbs
  refine pure_ (i := 0) (N := (some 61)) (v := ?_) (a' := ?_) #[true, false, false, false, false, false, false] rfl rfl (any_of HT_.out (by kernel_rfl)) (fun _ _ _ h => h) (Or.inl ⟨by rfl, ?_⟩) ?_ ?_
  rotate_left
  ·intro w'
   go_simp
   with_reducible rfl
  rotate_left
  ·simp only [Act.put, List.setIfInBounds_toArray, List.set_cons_zero, List.set_cons_succ, i64_w, i32_w]
   rfl
  refine pure_ (i := 1) (N := (some 62)) (v := ?_) (a' := ?_) #[true, true, false, false, false, false, false] rfl rfl (any_of HT_.out (by kernel_rfl)) (fun _ _ _ h => h) (Or.inl ⟨by rfl, ?_⟩) ?_ ?_
  rotate_left
  ·intro w'
   go_simp
   with_reducible rfl
  rotate_left
  ·simp only [Act.put, List.setIfInBounds_toArray, List.set_cons_zero, List.set_cons_succ, i64_w, i32_w]
   rfl
  refine take_ (i := 2) (N := (some 63)) (v := ?_) (a' := ?_) #[true, true, true, false, false, false, false] rfl rfl (take_ofW HT_.out HW_.out (by kernel_rfl)) (fun _ _ _ h => h) (Or.inl ⟨by rfl, ?_⟩) hHeld ?_ ?_
  rotate_left
  ·rintro w' ⟨s0, s1, s2, s3⟩
   have b0 := (blk_cell s3 0).trans rfl
   have b1 := (blk_cell s3 1).trans rfl
   have b2 := (blk_cell s3 2).trans rfl
   have b3 := (blk_cell s3 3).trans rfl
   go_simp
   with_reducible rfl
  rotate_left
  ·simp only [Act.put, List.setIfInBounds_toArray, List.set_cons_zero, List.set_cons_succ, i64_w, i32_w]
   rfl
  refine pure_ (i := 3) (N := (some 64)) (v := ?_) (a' := ?_) #[true, true, true, true, false, false, false] rfl rfl (any_of HT_.out (by kernel_rfl)) (fun _ _ _ h => h) (Or.inl ⟨by rfl, ?_⟩) ?_ ?_
  rotate_left
  ·intro w'
   go_simp
   with_reducible rfl
  rotate_left
  ·simp only [Act.put, List.setIfInBounds_toArray, List.set_cons_zero, List.set_cons_succ, i64_w, i32_w]
   rfl
  refine pure_ (i := 4) (N := (some 65)) (v := ?_) (a' := ?_) #[true, true, true, true, true, false, false] rfl rfl (any_of HT_.out (by kernel_rfl)) (fun _ _ _ h => h) (Or.inl ⟨by rfl, ?_⟩) ?_ ?_
  rotate_left
  ·intro w'
   go_simp
   with_reducible rfl
  rotate_left
  ·simp only [Act.put, List.setIfInBounds_toArray, List.set_cons_zero, List.set_cons_succ, i64_w, i32_w]
   rfl
  refine pure_ (i := 5) (N := (some 66)) (v := ?_) (a' := ?_) #[true, true, true, true, true, true, false] rfl rfl (any_of HT_.out (by kernel_rfl)) (fun _ _ _ h => h) (Or.inl ⟨by rfl, ?_⟩) ?_ ?_
  rotate_left
  ·intro w'
   go_simp
   with_reducible rfl
  rotate_left
  ·simp only [Act.put, List.setIfInBounds_toArray, List.set_cons_zero, List.set_cons_succ, i64_w, i32_w]
   rfl
  refine last_ (i := 6) (N := none) #[true, true, true, true, true, true, true] rfl rfl (one_of HT_.out (by kernel_rfl)) (by decide) (fun K hK => ?_)
  refine store_mid_ 50 (.tmp 66) (.tmp 63) rfl (by rfl) rfl g (1 + k * 4) #[.int .i64 (s.a k).id, .int .i64 (s.a k).nx, .int .i64 (ackP (s.a k).nx (takeL (s.a k).ws (r : Int))), .slice A1 (takeL (s.a k).ws (r : Int)).length c1] rfl rfl (there_blk HL.out.hg (by rw [HL.out.cells.sz]; show 1 + k * 4 + 4 ≤ 28; omega)) (by kernel_rfl) (by simp [Value.oneCell']) ?_
  have HL7 := hd (HL.out.put_a (v := (.slice A1 (takeL (s.a k).ws (r : Int)).length c1)) (x := (⟨(s.a k).id, (s.a k).nx, ackP (s.a k).nx (takeL (s.a k).ws (r : Int)), takeL (s.a k).ws (r : Int)⟩ : Ak)) hk hR5.out)
  have T7 := turn_cells HL.out.hg HL.out.gb (1 + k * 4) (cells4 (⟨(s.a k).id, (s.a k).nx, ackP (s.a k).nx (takeL (s.a k).ws (r : Int)), takeL (s.a k).ws (r : Int)⟩ : Ak) (.slice A1 (takeL (s.a k).ws (r : Int)).length c1))
  replace HB := hd (HB.out.trans T7.below)
  replace HX := hd (T7.keep _ _ _ HX.out (by decide))
  refine hK.out _ _ ?_
  clear hK K T7 hR5 hg5 HL hHeld
  have HL := HL7
  clear HL7
  unfold cells4 at HL HB HX
  dsimp only at HL HB HX
  generalize World.setCells _ _ _ _ = w7 at HL HB HX ⊢
  refine done_ (done_of HT_.out (by kernel_rfl)) ?_
  clear HT_ HW_
  go_wp2_with fail
  refine start_ (n := 12) (S := fun w' => w'.heap[g]? = some (.cells (set4 cs (1 + k * 4) (⟨(s.a k).id, (s.a k).nx, ackP (s.a k).nx (takeL (s.a k).ws (r : Int)), takeL (s.a k).ws (r : Int)⟩ : Ak) (.slice A1 (takeL (s.a k).ws (r : Int)).length c1)) 67 (0, 0)) ∧ w'.heap[gx]? = some (.cells #[.int .i64 ((k : Int) + 1), .int .i64 (r : Int), .int .i64 v] 75 (0, 0)) ∧ w'.heap[bf k]? = some (.cells (row250 (s.got k)) 3 (0, 0))) (ds := [11]) kakes12 (by kernel_rfl) rfl rfl ⟨HL.out.hg, HX.out, (HL.out.og k hk).2⟩ (fun hHeld => ?_)
  refine with_tabW takes.tab6 takes.bits6 (fun HT_ HW_ => ?_)
  have HL0 := HL
  have HL : Hd (Lay base g w7.drew _ _ _ _ _ _ _ _) := hd (HL0.out.below (below_drew1 (Below.refl _ _)))
  have HB0 := HB
  have HB : Hd (Below base w0 w7.drew) := hd (below_drew1 HB0.out)
  have HX0 := HX
  have HX : Hd (w7.drew.heap[gx]? = _) := hd HX0.out
  clear HL0 HB0 HX0
  have hbs : base ≤ w7.drew.heap.size := HL.out.bs
  generalize w7.drew = w8 at HL HB HX hHeld hbs ⊢
  refine pure_ (i := 0) (N := (some 67)) (v := ?_) (a' := ?_) kakes11 rfl rfl (any_of HT_.out (by kernel_rfl)) (fun _ _ _ h => h) (Or.inl ⟨by rfl, ?_⟩) ?_ ?_
  rotate_left
  ·intro w'
   go_simp
   with_reducible rfl
  rotate_left
  ·simp only [Act.put, List.setIfInBounds_toArray, List.set_cons_zero, List.set_cons_succ, i64_w, i32_w]
   rfl
  refine pure_ (i := 1) (N := (some 68)) (v := ?_) (a' := ?_) kakes10 rfl rfl (any_of HT_.out (by kernel_rfl)) (fun _ _ _ h => h) (Or.inl ⟨by rfl, ?_⟩) ?_ ?_
  rotate_left
  ·intro w'
   go_simp
   with_reducible rfl
  rotate_left
  ·simp only [Act.put, List.setIfInBounds_toArray, List.set_cons_zero, List.set_cons_succ, i64_w, i32_w]
   rfl
  refine pure_ (i := 2) (N := (some 69)) (v := ?_) (a' := ?_) kakes9 rfl rfl (any_of HT_.out (by kernel_rfl)) (fun _ _ _ h => h) (Or.inl ⟨by rfl, ?_⟩) ?_ ?_
  rotate_left
  ·intro w'
   go_simp
   with_reducible rfl
  rotate_left
  ·simp only [Act.put, List.setIfInBounds_toArray, List.set_cons_zero, List.set_cons_succ, i64_w, i32_w]
   rfl
  refine pure_ (i := 3) (N := (some 70)) (v := ?_) (a' := ?_) kakes8 rfl rfl (any_of HT_.out (by kernel_rfl)) (fun _ _ _ h => h) (Or.inl ⟨by rfl, ?_⟩) ?_ ?_
  rotate_left
  ·intro w'
   go_simp
   with_reducible rfl
  rotate_left
  ·simp only [Act.put, List.setIfInBounds_toArray, List.set_cons_zero, List.set_cons_succ, i64_w, i32_w]
   rfl
  refine pure_ (i := 4) (N := (some 71)) (v := ?_) (a' := ?_) kakes7 rfl rfl (any_of HT_.out (by kernel_rfl)) (fun _ _ _ h => h) (Or.inl ⟨by rfl, ?_⟩) ?_ ?_
  rotate_left
  ·intro w'
   go_simp
   with_reducible rfl
  rotate_left
  ·simp only [Act.put, List.setIfInBounds_toArray, List.set_cons_zero, List.set_cons_succ, i64_w, i32_w]
   rfl
  refine take_ (i := 5) (N := (some 72)) (v := ?_) (a' := ?_) kakes6 rfl rfl (take_ofW HT_.out HW_.out (by kernel_rfl)) (fun _ _ _ h => h) (Or.inl ⟨by rfl, ?_⟩) hHeld ?_ ?_
  rotate_left
  ·rintro w' ⟨s0, s1, s2⟩
   have f0 := (blk_cell s0 (23 + k)).trans (HL.out.cells.cf k hk)
   unfold arrC at f0
   go_simp
   with_reducible rfl
  rotate_left
  ·simp only [Act.put, List.setIfInBounds_toArray, List.set_cons_zero, List.set_cons_succ, i64_w, i32_w]
   rfl
  refine pure_ (i := 6) (N := (some 73)) (v := ?_) (a' := ?_) kakes5 rfl rfl (any_of HT_.out (by kernel_rfl)) (fun _ _ _ h => h) (Or.inl ⟨by rfl, ?_⟩) ?_ ?_
  rotate_left
  ·intro w'
   go_simp
   with_reducible rfl
  rotate_left
  ·simp only [Act.put, List.setIfInBounds_toArray, List.set_cons_zero, List.set_cons_succ, i64_w, i32_w]
   rfl
  refine take_ (i := 7) (N := (some 74)) (v := ?_) (a' := ?_) kakes4 rfl rfl (take_ofW HT_.out HW_.out (by kernel_rfl)) (fun _ _ _ h => h) (Or.inl ⟨by rfl, ?_⟩) hHeld ?_ ?_
  rotate_left
  ·rintro w' ⟨s0, s1, s2⟩
   have e0 := (blk_cell s1 0).trans rfl
   have e1 := (blk_cell s1 1).trans rfl
   have e2 := (blk_cell s1 2).trans rfl
   go_simp
   with_reducible rfl
  rotate_left
  ·simp only [Act.put, List.setIfInBounds_toArray, List.set_cons_zero, List.set_cons_succ, i64_w, i32_w]
   rfl
  refine pure_ (i := 8) (N := (some 75)) (v := ?_) (a' := ?_) kakes3 rfl rfl (any_of HT_.out (by kernel_rfl)) (fun _ _ _ h => h) (Or.inl ⟨by rfl, ?_⟩) ?_ ?_
  rotate_left
  ·intro w'
   go_simp
   with_reducible rfl
  rotate_left
  ·simp only [Act.put, List.setIfInBounds_toArray, List.set_cons_zero, List.set_cons_succ, i64_w, i32_w]
   rfl
  refine take_ (i := 9) (N := (some 76)) (v := ?_) (a' := ?_) kakes2 rfl rfl (take_ofW HT_.out HW_.out (by kernel_rfl)) (fun _ _ _ h => h) (Or.inl ⟨by rfl, ?_⟩) hHeld ?_ ?_
  rotate_left
  ·rintro w' ⟨s0, s1, s2⟩
   have e0 := (blk_cell s1 0).trans rfl
   have e1 := (blk_cell s1 1).trans rfl
   have e2 := (blk_cell s1 2).trans rfl
   go_simp
   with_reducible rfl
  rotate_left
  ·simp only [Act.put, List.setIfInBounds_toArray, List.set_cons_zero, List.set_cons_succ, i64_w, i32_w]
   rfl
  refine pure_ (i := 10) (N := (some 77)) (v := ?_) (a' := ?_) kakes1 rfl rfl (any_of HT_.out (by kernel_rfl)) (fun _ _ _ h => h) (Or.inl ⟨by rfl, ?_⟩) ?_ ?_
  rotate_left
  ·intro w'
   go_simp
   with_reducible rfl
  rotate_left
  ·simp only [Act.put, List.setIfInBounds_toArray, List.set_cons_zero, List.set_cons_succ, i64_w, i32_w]
   rfl
  refine last_ (i := 11) (N := none) kakes0 rfl rfl (one_of HT_.out (by kernel_rfl)) (by decide) (fun K hK => ?_)
  have cf := (blk_cell (HL.out.og k hk).2 r).trans (row250_at _ r (by omega))
  have ff := blk_frozen (HL.out.og k hk).2 r
  refine skip_ (w1 := w8.setCell ⟨bf k, r, none⟩ (.int .i64 v)) (by rfl) rfl ?_ ?_
  ·go_simp
  have HL9 := hd (HL.out.put_g hk r v)
  have HB9 := hd (HB.out.trans (turn_set (j := r) (HL.out.og k hk).2 (HL.out.og k hk).1 (.int .i64 v)).below)
  refine hK.out _ _ ?_
  clear hK K
  refine done_ (done_of HT_.out (by kernel_rfl)) ?_
  clear HT_ HW_
  go_wp2
  go_ret
  exact ⟨rfl, ⟨_, _, _, _, _, _, _, HL9.out⟩, HB9.out⟩

 ·have hwas : hasL (s.a k).ws (r : Int) = false := by rw [HHAS.out]; simp [hz]
  rw [hwas]
  have HZ := hd (HGOT.out hz)
  have hv0 : v ≠ 0 := by rw [← HZ.out]; exact hz
  have hv1 : (v == 0) = false := by simpa using hv0
  clear hz hwas
  go_wp2_with fail
  refine start_ (n := 36) (S := fun w' => w'.heap[g]? = some (.cells cs 67 (0, 0)) ∧ w'.heap[gx]? = some (.cells #[.int .i64 ((k : Int) + 1), .int .i64 (r : Int), .int .i64 v] 75 (0, 0)) ∧ w'.heap[bf k]? = some (.cells (row250 (s.got k)) 3 (0, 0)) ∧ w'.heap[gb]? = some (.cells #[.int .i64 (s.a k).id, .int .i64 (s.a k).nx, .int .i64 (ackP (s.a k).nx (takeL (s.a k).ws (r : Int))), .slice A1 (takeL (s.a k).ws (r : Int)).length c1] 50 (0, 0))) (ds := []) kakes72 (by kernel_rfl) rfl rfl ⟨HL.out.hg, HX.out, (HL.out.og k hk).2, hg5.out⟩ (fun hHeld => ?_)
  refine with_tabW takes.tab3 takes.bits3 (fun HT_ HW_ => ?_)
  have HL0 := HL
  have HL : Hd (Lay base g w5.drew _ _ _ _ _ _ _ _) := hd (HL0.out.below (below_drew1 (Below.refl _ _)))
  have HB0 := HB
  have HB : Hd (Below base w0 w5.drew) := hd (below_drew1 HB0.out)
  have HX0 := HX
  have HX : Hd (w5.drew.heap[gx]? = _) := hd HX0.out
  have hg0 := hg5
  have hg5 : Hd (w5.drew.heap[gb]? = _) := hd hg0.out
  have hR0 := hR5
  have hR5 : Hd (Own k70 70 base w5.drew _ _) := hd (hR0.out.turn (turn_below (e := 99) HL0.out.bs (below_drew1 (Below.refl _ _))) (fun _ hq => (by have := k70_E _ hq; omega)))
  clear hg0 hR0 HL0 HB0 HX0
  have hbs : base ≤ w5.drew.heap.size := HL.out.bs
  generalize w5.drew = w6 at HL HB HX hHeld hbs hg5 hR5 ⊢
  clear hbs
  refine pure_ (i := 0) (N := (some 25)) (v := ?_) (a' := ?_) kakes71 rfl rfl (any_of HT_.out (by kernel_rfl)) (fun _ _ _ h => h) (Or.inl ⟨by rfl, ?_⟩) ?_ ?_
  rotate_left
  ·intro w'
   go_simp
   with_reducible rfl
  rotate_left
  ·simp only [Act.put, List.setIfInBounds_toArray, List.set_cons_zero, List.set_cons_succ, i64_w, i32_w]
   rfl
  refine pure_ (i := 1) (N := (some 26)) (v := ?_) (a' := ?_) kakes70 rfl rfl (any_of HT_.out (by kernel_rfl)) (fun _ _ _ h => h) (Or.inl ⟨by rfl, ?_⟩) ?_ ?_
  rotate_left
  ·intro w'
   go_simp
   with_reducible rfl
  rotate_left
  ·simp only [Act.put, List.setIfInBounds_toArray, List.set_cons_zero, List.set_cons_succ, i64_w, i32_w]
   rfl
  refine pure_ (i := 2) (N := (some 27)) (v := ?_) (a' := ?_) kakes69 rfl rfl (any_of HT_.out (by kernel_rfl)) (fun _ _ _ h => h) (Or.inl ⟨by rfl, ?_⟩) ?_ ?_
  rotate_left
  ·intro w'
   go_simp
   with_reducible rfl
  rotate_left
  ·simp only [Act.put, List.setIfInBounds_toArray, List.set_cons_zero, List.set_cons_succ, i64_w, i32_w]
   rfl
  refine pure_ (i := 3) (N := (some 28)) (v := ?_) (a' := ?_) kakes68 rfl rfl (any_of HT_.out (by kernel_rfl)) (fun _ _ _ h => h) (Or.inl ⟨by rfl, ?_⟩) ?_ ?_
  rotate_left
  ·intro w'
   go_simp
   with_reducible rfl
  rotate_left
  ·simp only [Act.put, List.setIfInBounds_toArray, List.set_cons_zero, List.set_cons_succ, i64_w, i32_w]
   rfl
  refine pure_ (i := 4) (N := (some 29)) (v := ?_) (a' := ?_) kakes67 rfl rfl (any_of HT_.out (by kernel_rfl)) (fun _ _ _ h => h) (Or.inl ⟨by rfl, ?_⟩) ?_ ?_
  rotate_left
  ·intro w'
   go_simp
   with_reducible rfl
  rotate_left
  ·simp only [Act.put, List.setIfInBounds_toArray, List.set_cons_zero, List.set_cons_succ, i64_w, i32_w]
   rfl
  refine pure_ (i := 5) (N := (some 30)) (v := ?_) (a' := ?_) kakes66 rfl rfl (any_of HT_.out (by kernel_rfl)) (fun _ _ _ h => h) (Or.inl ⟨by rfl, ?_⟩) ?_ ?_
  rotate_left
  ·intro w'
   go_simp
   with_reducible rfl
  rotate_left
  ·simp only [Act.put, List.setIfInBounds_toArray, List.set_cons_zero, List.set_cons_succ, i64_w, i32_w]
   rfl
  refine pure_ (i := 6) (N := (some 31)) (v := ?_) (a' := ?_) kakes65 rfl rfl (any_of HT_.out (by kernel_rfl)) (fun _ _ _ h => h) (Or.inl ⟨by rfl, ?_⟩) ?_ ?_
  rotate_left
  ·intro w'
   go_simp
   with_reducible rfl
  rotate_left
  ·simp only [Act.put, List.setIfInBounds_toArray, List.set_cons_zero, List.set_cons_succ, i64_w, i32_w]
   rfl
  refine pure_ (i := 7) (N := (some 32)) (v := ?_) (a' := ?_) kakes64 rfl rfl (any_of HT_.out (by kernel_rfl)) (fun _ _ _ h => h) (Or.inl ⟨by rfl, ?_⟩) ?_ ?_
  rotate_left
  ·intro w'
   go_simp
   with_reducible rfl
  rotate_left
  ·simp only [Act.put, List.setIfInBounds_toArray, List.set_cons_zero, List.set_cons_succ, i64_w, i32_w]
   rfl
  refine pure_ (i := 8) (N := (some 33)) (v := ?_) (a' := ?_) kakes63 rfl rfl (any_of HT_.out (by kernel_rfl)) (fun _ _ _ h => h) (Or.inl ⟨by rfl, ?_⟩) ?_ ?_
  rotate_left
  ·intro w'
   go_simp
   with_reducible rfl
  rotate_left
  ·simp only [Act.put, List.setIfInBounds_toArray, List.set_cons_zero, List.set_cons_succ, i64_w, i32_w]
   rfl
  refine take_ (i := 9) (N := (some 34)) (v := ?_) (a' := ?_) kakes62 rfl rfl (take_ofW HT_.out HW_.out (by kernel_rfl)) (fun _ _ _ h => h) (Or.inl ⟨by rfl, ?_⟩) hHeld ?_ ?_
  rotate_left
  ·rintro w' ⟨s0, s1, s2, s3⟩
   have f0 := (blk_cell s0 (23 + k)).trans (HL.out.cells.cf k hk)
   unfold arrC at f0
   go_simp
   with_reducible rfl
  rotate_left
  ·simp only [Act.put, List.setIfInBounds_toArray, List.set_cons_zero, List.set_cons_succ, i64_w, i32_w]
   rfl
  refine pure_ (i := 10) (N := (some 35)) (v := ?_) (a' := ?_) kakes61 rfl rfl (any_of HT_.out (by kernel_rfl)) (fun _ _ _ h => h) (Or.inl ⟨by rfl, ?_⟩) ?_ ?_
  rotate_left
  ·intro w'
   go_simp
   with_reducible rfl
  rotate_left
  ·simp only [Act.put, List.setIfInBounds_toArray, List.set_cons_zero, List.set_cons_succ, i64_w, i32_w]
   rfl
  refine take_ (i := 11) (N := (some 36)) (v := ?_) (a' := ?_) kakes60 rfl rfl (take_ofW HT_.out HW_.out (by kernel_rfl)) (fun _ _ _ h => h) (Or.inl ⟨by rfl, ?_⟩) hHeld ?_ ?_
  rotate_left
  ·rintro w' ⟨s0, s1, s2, s3⟩
   have e0 := (blk_cell s1 0).trans rfl
   have e1 := (blk_cell s1 1).trans rfl
   have e2 := (blk_cell s1 2).trans rfl
   go_simp
   with_reducible rfl
  rotate_left
  ·simp only [Act.put, List.setIfInBounds_toArray, List.set_cons_zero, List.set_cons_succ, i64_w, i32_w]
   rfl
  refine pure_ (i := 12) (N := (some 37)) (v := ?_) (a' := ?_) kakes59 rfl rfl (any_of HT_.out (by kernel_rfl)) (fun _ _ _ h => h) (Or.inl ⟨by rfl, ?_⟩) ?_ ?_
  rotate_left
  ·intro w'
   go_simp
   with_reducible rfl
  rotate_left
  ·simp only [Act.put, List.setIfInBounds_toArray, List.set_cons_zero, List.set_cons_succ, i64_w, i32_w]
   rfl
  refine take_ (i := 13) (N := (some 38)) (v := ?_) (a' := ?_) kakes58 rfl rfl (take_ofW HT_.out HW_.out (by kernel_rfl)) (fun _ _ _ h => h) (Or.inl ⟨by rfl, ?_⟩) hHeld ?_ ?_
  rotate_left
  ·rintro w' ⟨s0, s1, s2, s3⟩
   have f1 := (blk_cell s2 r).trans (row250_at _ r (by omega))
   rw [HZ.out] at f1
   go_simp
   with_reducible rfl
  rotate_left
  ·simp only [Act.put, List.setIfInBounds_toArray, List.set_cons_zero, List.set_cons_succ, i64_w, i32_w]
   rfl
  refine pure_ (i := 14) (N := (some 39)) (v := ?_) (a' := ?_) kakes57 rfl rfl (any_of HT_.out (by kernel_rfl)) (fun _ _ _ h => h) (Or.inl ⟨by rfl, ?_⟩) ?_ ?_
  rotate_left
  ·intro w'
   go_simp
   with_reducible rfl
  rotate_left
  ·simp only [Act.put, List.setIfInBounds_toArray, List.set_cons_zero, List.set_cons_succ, i64_w, i32_w]
   rfl
  refine pure_ (i := 15) (N := (some 40)) (v := ?_) (a' := ?_) kakes56 rfl rfl (any_of HT_.out (by kernel_rfl)) (fun _ _ _ h => h) (Or.inl ⟨by rfl, ?_⟩) ?_ ?_
  rotate_left
  ·intro w'
   go_simp
   with_reducible rfl
  rotate_left
  ·simp only [Act.put, List.setIfInBounds_toArray, List.set_cons_zero, List.set_cons_succ, i64_w, i32_w]
   rfl
  refine pure_ (i := 16) (N := (some 41)) (v := ?_) (a' := ?_) kakes55 rfl rfl (any_of HT_.out (by kernel_rfl)) (fun _ _ _ h => h) (Or.inl ⟨by rfl, ?_⟩) ?_ ?_
  rotate_left
  ·intro w'
   go_simp
   with_reducible rfl
  rotate_left
  ·simp only [Act.put, List.setIfInBounds_toArray, List.set_cons_zero, List.set_cons_succ, i64_w, i32_w]
   rfl
  refine pure_ (i := 17) (N := (some 42)) (v := ?_) (a' := ?_) kakes54 rfl rfl (any_of HT_.out (by kernel_rfl)) (fun _ _ _ h => h) (Or.inl ⟨by rfl, ?_⟩) ?_ ?_
  rotate_left
  ·intro w'
   go_simp
   with_reducible rfl
  rotate_left
  ·simp only [Act.put, List.setIfInBounds_toArray, List.set_cons_zero, List.set_cons_succ, i64_w, i32_w]
   rfl
  refine pure_ (i := 18) (N := (some 43)) (v := ?_) (a' := ?_) kakes53 rfl rfl (any_of HT_.out (by kernel_rfl)) (fun _ _ _ h => h) (Or.inl ⟨by rfl, ?_⟩) ?_ ?_
  rotate_left
  ·intro w'
   go_simp
   with_reducible rfl
  rotate_left
  ·simp only [Act.put, List.setIfInBounds_toArray, List.set_cons_zero, List.set_cons_succ, i64_w, i32_w]
   rfl
  refine pure_ (i := 19) (N := (some 44)) (v := ?_) (a' := ?_) kakes52 rfl rfl (any_of HT_.out (by kernel_rfl)) (fun _ _ _ h => h) (Or.inl ⟨by rfl, ?_⟩) ?_ ?_
  rotate_left
  ·intro w'
   go_simp
   with_reducible rfl
  rotate_left
  ·simp only [Act.put, List.setIfInBounds_toArray, List.set_cons_zero, List.set_cons_succ, i64_w, i32_w]
   rfl
  refine pure_ (i := 20) (N := (some 45)) (v := ?_) (a' := ?_) kakes51 rfl rfl (any_of HT_.out (by kernel_rfl)) (fun _ _ _ h => h) (Or.inl ⟨by rfl, ?_⟩) ?_ ?_
  rotate_left
  ·intro w'
   go_simp
   with_reducible rfl
  rotate_left
  ·simp only [Act.put, List.setIfInBounds_toArray, List.set_cons_zero, List.set_cons_succ, i64_w, i32_w]
   rfl
  refine pure_ (i := 21) (N := (some 46)) (v := ?_) (a' := ?_) kakes50 rfl rfl (any_of HT_.out (by kernel_rfl)) (fun _ _ _ h => h) (Or.inl ⟨by rfl, ?_⟩) ?_ ?_
  rotate_left
  ·intro w'
   go_simp
   with_reducible rfl
  rotate_left
  ·simp only [Act.put, List.setIfInBounds_toArray, List.set_cons_zero, List.set_cons_succ, i64_w, i32_w]
   rfl
  refine pure_ (i := 22) (N := (some 47)) (v := ?_) (a' := ?_) kakes49 rfl rfl (any_of HT_.out (by kernel_rfl)) (fun _ _ _ h => h) (Or.inl ⟨by rfl, ?_⟩) ?_ ?_
  rotate_left
  ·intro w'
   go_simp
   with_reducible rfl
  rotate_left
  ·simp only [Act.put, List.setIfInBounds_toArray, List.set_cons_zero, List.set_cons_succ, i64_w, i32_w]
   rfl
  refine pure_ (i := 23) (N := (some 48)) (v := ?_) (a' := ?_) kakes48 rfl rfl (any_of HT_.out (by kernel_rfl)) (fun _ _ _ h => h) (Or.inl ⟨by rfl, ?_⟩) ?_ ?_
  rotate_left
  ·intro w'
   go_simp
   with_reducible rfl
  rotate_left
  ·simp only [Act.put, List.setIfInBounds_toArray, List.set_cons_zero, List.set_cons_succ, i64_w, i32_w]
   rfl
  refine pure_ (i := 24) (N := (some 49)) (v := ?_) (a' := ?_) kakes47 rfl rfl (any_of HT_.out (by kernel_rfl)) (fun _ _ _ h => h) (Or.inl ⟨by rfl, ?_⟩) ?_ ?_
  rotate_left
  ·intro w'
   go_simp
   with_reducible rfl
  rotate_left
  ·simp only [Act.put, List.setIfInBounds_toArray, List.set_cons_zero, List.set_cons_succ, i64_w, i32_w]
   rfl
  refine pure_ (i := 25) (N := (some 50)) (v := ?_) (a' := ?_) kakes46 rfl rfl (any_of HT_.out (by kernel_rfl)) (fun _ _ _ h => h) (Or.inl ⟨by rfl, ?_⟩) ?_ ?_
  rotate_left
  ·intro w'
   go_simp
   with_reducible rfl
  rotate_left
  ·simp only [Act.put, List.setIfInBounds_toArray, List.set_cons_zero, List.set_cons_succ, i64_w, i32_w]
   rfl
  refine take_ (i := 26) (N := (some 51)) (v := ?_) (a' := ?_) kakes45 rfl rfl (take_ofW HT_.out HW_.out (by kernel_rfl)) (fun _ _ _ h => h) (Or.inl ⟨by rfl, ?_⟩) hHeld ?_ ?_
  rotate_left
  ·rintro w' ⟨s0, s1, s2, s3⟩
   have f0 := (blk_cell s0 (23 + k)).trans (HL.out.cells.cf k hk)
   unfold arrC at f0
   go_simp
   with_reducible rfl
  rotate_left
  ·simp only [Act.put, List.setIfInBounds_toArray, List.set_cons_zero, List.set_cons_succ, i64_w, i32_w]
   rfl
  refine pure_ (i := 27) (N := (some 52)) (v := ?_) (a' := ?_) kakes44 rfl rfl (any_of HT_.out (by kernel_rfl)) (fun _ _ _ h => h) (Or.inl ⟨by rfl, ?_⟩) ?_ ?_
  rotate_left
  ·intro w'
   go_simp
   with_reducible rfl
  rotate_left
  ·simp only [Act.put, List.setIfInBounds_toArray, List.set_cons_zero, List.set_cons_succ, i64_w, i32_w]
   rfl
  refine take_ (i := 28) (N := (some 53)) (v := ?_) (a' := ?_) kakes43 rfl rfl (take_ofW HT_.out HW_.out (by kernel_rfl)) (fun _ _ _ h => h) (Or.inl ⟨by rfl, ?_⟩) hHeld ?_ ?_
  rotate_left
  ·rintro w' ⟨s0, s1, s2, s3⟩
   have e0 := (blk_cell s1 0).trans rfl
   have e1 := (blk_cell s1 1).trans rfl
   have e2 := (blk_cell s1 2).trans rfl
   go_simp
   with_reducible rfl
  rotate_left
  ·simp only [Act.put, List.setIfInBounds_toArray, List.set_cons_zero, List.set_cons_succ, i64_w, i32_w]
   rfl
  refine pure_ (i := 29) (N := (some 54)) (v := ?_) (a' := ?_) kakes42 rfl rfl (any_of HT_.out (by kernel_rfl)) (fun _ _ _ h => h) (Or.inl ⟨by rfl, ?_⟩) ?_ ?_
  rotate_left
  ·intro w'
   go_simp
   with_reducible rfl
  rotate_left
  ·simp only [Act.put, List.setIfInBounds_toArray, List.set_cons_zero, List.set_cons_succ, i64_w, i32_w]
   rfl
  refine take_ (i := 30) (N := (some 55)) (v := ?_) (a' := ?_) kakes41 rfl rfl (take_ofW HT_.out HW_.out (by kernel_rfl)) (fun _ _ _ h => h) (Or.inl ⟨by rfl, ?_⟩) hHeld ?_ ?_
  rotate_left
  ·rintro w' ⟨s0, s1, s2, s3⟩
   have f1 := (blk_cell s2 r).trans (row250_at _ r (by omega))
   rw [HZ.out] at f1
   go_simp
   with_reducible rfl
  rotate_left
  ·simp only [Act.put, List.setIfInBounds_toArray, List.set_cons_zero, List.set_cons_succ, i64_w, i32_w]
   rfl
  refine pure_ (i := 31) (N := (some 56)) (v := ?_) (a' := ?_) kakes40 rfl rfl (any_of HT_.out (by kernel_rfl)) (fun _ _ _ h => h) (Or.inl ⟨by rfl, ?_⟩) ?_ ?_
  rotate_left
  ·intro w'
   go_simp
   with_reducible rfl
  rotate_left
  ·simp only [Act.put, List.setIfInBounds_toArray, List.set_cons_zero, List.set_cons_succ, i64_w, i32_w]
   rfl
  refine take_ (i := 32) (N := (some 57)) (v := ?_) (a' := ?_) kakes39 rfl rfl (take_ofW HT_.out HW_.out (by kernel_rfl)) (fun _ _ _ h => h) (Or.inl ⟨by rfl, ?_⟩) hHeld ?_ ?_
  rotate_left
  ·rintro w' ⟨s0, s1, s2, s3⟩
   have e0 := (blk_cell s1 0).trans rfl
   have e1 := (blk_cell s1 1).trans rfl
   have e2 := (blk_cell s1 2).trans rfl
   go_simp
   with_reducible rfl
  rotate_left
  ·simp only [Act.put, List.setIfInBounds_toArray, List.set_cons_zero, List.set_cons_succ, i64_w, i32_w]
   rfl
  refine pure_ (i := 33) (N := (some 58)) (v := ?_) (a' := ?_) kakes38 rfl rfl (any_of HT_.out (by kernel_rfl)) (fun _ _ _ h => h) (Or.inl ⟨by rfl, ?_⟩) ?_ ?_
  rotate_left
  ·intro w'
   go_simp
   with_reducible rfl
  rotate_left
  ·simp only [Act.put, List.setIfInBounds_toArray, List.set_cons_zero, List.set_cons_succ, i64_w, i32_w]
   rfl
  refine pure_ (i := 34) (N := (some 59)) (v := ?_) (a' := ?_) kakes37 rfl rfl (any_of HT_.out (by kernel_rfl)) (fun _ _ _ h => h) (Or.inl ⟨by rfl, ?_⟩) ?_ ?_
  rotate_left
  ·intro w'
   go_simp
   with_reducible rfl
  rotate_left
  ·simp only [Act.put, List.setIfInBounds_toArray, List.set_cons_zero, List.set_cons_succ, i64_w, i32_w]
   rfl
  refine pure_ (i := 35) (N := (some 60)) (v := ?_) (a' := ?_) kakes36 rfl rfl (any_of HT_.out (by kernel_rfl)) (fun _ _ _ h => h) (Or.inl ⟨by rfl, ?_⟩) ?_ ?_
  rotate_left
  ·intro w'
   go_simp
   with_reducible rfl
  rotate_left
  ·simp only [Act.put, List.setIfInBounds_toArray, List.set_cons_zero, List.set_cons_succ, i64_w, i32_w]
   rfl
  refine done_ (done_of HT_.out (by kernel_rfl)) ?_
  clear HT_ HW_
  go_wp2_with fail
  refine start_ (n := 7) (S := fun w' => w'.heap[g]? = some (.cells cs 67 (0, 0)) ∧ w'.heap[gx]? = some (.cells #[.int .i64 ((k : Int) + 1), .int .i64 (r : Int), .int .i64 v] 75 (0, 0)) ∧ w'.heap[bf k]? = some (.cells (row250 (s.got k)) 3 (0, 0)) ∧ w'.heap[gb]? = some (.cells #[.int .i64 (s.a k).id, .int .i64 (s.a k).nx, .int .i64 (ackP (s.a k).nx (takeL (s.a k).ws (r : Int))), .slice A1 (takeL (s.a k).ws (r : Int)).length c1] 50 (0, 0))) (ds := [6]) #[false, false, false, false, false, false, false] (by kernel_rfl) rfl rfl ⟨HL.out.hg, HX.out, (HL.out.og k hk).2, hg5.out⟩ (fun hHeld => ?_)
  refine with_tabW takes.tab5 takes.bits5 (fun HT_ HW_ => ?_)
  have HL0 := HL
  have HL : Hd (Lay base g w6.drew _ _ _ _ _ _ _ _) := hd (HL0.out.below (below_drew1 (Below.refl _ _)))
  have HB0 := HB
  have HB : Hd (Below base w0 w6.drew) := hd (below_drew1 HB0.out)
  have HX0 := HX
  have HX : Hd (w6.drew.heap[gx]? = _) := hd HX0.out
  have hg0 := hg5
  have hg5 : Hd (w6.drew.heap[gb]? = _) := hd hg0.out
  have hR0 := hR5
  have hR5 : Hd (Own k70 70 base w6.drew _ _) := hd (hR0.out.turn (turn_below (e := 99) HL0.out.bs (below_drew1 (Below.refl _ _))) (fun _ hq => (by have := k70_E _ hq; omega)))
  clear hg0 hR0 HL0 HB0 HX0
  have hbs : base ≤ w6.drew.heap.size := HL.out.bs
  generalize w6.drew = w6b at HL HB HX hHeld hbs hg5 hR5 ⊢
  clear hbs
  refine pure_ (i := 0) (N := (some 61)) (v := ?_) (a' := ?_) #[true, false, false, false, false, false, false] rfl rfl (any_of HT_.out (by kernel_rfl)) (fun _ _ _ h => h) (Or.inl ⟨by rfl, ?_⟩) ?_ ?_
  rotate_left
  ·intro w'
   go_simp
   with_reducible rfl
  rotate_left
  ·simp only [Act.put, List.setIfInBounds_toArray, List.set_cons_zero, List.set_cons_succ, i64_w, i32_w]
   rfl
  refine pure_ (i := 1) (N := (some 62)) (v := ?_) (a' := ?_) #[true, true, false, false, false, false, false] rfl rfl (any_of HT_.out (by kernel_rfl)) (fun _ _ _ h => h) (Or.inl ⟨by rfl, ?_⟩) ?_ ?_
  rotate_left
  ·intro w'
   go_simp
   with_reducible rfl
  rotate_left
  ·simp only [Act.put, List.setIfInBounds_toArray, List.set_cons_zero, List.set_cons_succ, i64_w, i32_w]
   rfl
  refine take_ (i := 2) (N := (some 63)) (v := ?_) (a' := ?_) #[true, true, true, false, false, false, false] rfl rfl (take_ofW HT_.out HW_.out (by kernel_rfl)) (fun _ _ _ h => h) (Or.inl ⟨by rfl, ?_⟩) hHeld ?_ ?_
  rotate_left
  ·rintro w' ⟨s0, s1, s2, s3⟩
   have b0 := (blk_cell s3 0).trans rfl
   have b1 := (blk_cell s3 1).trans rfl
   have b2 := (blk_cell s3 2).trans rfl
   have b3 := (blk_cell s3 3).trans rfl
   go_simp
   with_reducible rfl
  rotate_left
  ·simp only [Act.put, List.setIfInBounds_toArray, List.set_cons_zero, List.set_cons_succ, i64_w, i32_w]
   rfl
  refine pure_ (i := 3) (N := (some 64)) (v := ?_) (a' := ?_) #[true, true, true, true, false, false, false] rfl rfl (any_of HT_.out (by kernel_rfl)) (fun _ _ _ h => h) (Or.inl ⟨by rfl, ?_⟩) ?_ ?_
  rotate_left
  ·intro w'
   go_simp
   with_reducible rfl
  rotate_left
  ·simp only [Act.put, List.setIfInBounds_toArray, List.set_cons_zero, List.set_cons_succ, i64_w, i32_w]
   rfl
  refine pure_ (i := 4) (N := (some 65)) (v := ?_) (a' := ?_) #[true, true, true, true, true, false, false] rfl rfl (any_of HT_.out (by kernel_rfl)) (fun _ _ _ h => h) (Or.inl ⟨by rfl, ?_⟩) ?_ ?_
  rotate_left
  ·intro w'
   go_simp
   with_reducible rfl
  rotate_left
  ·simp only [Act.put, List.setIfInBounds_toArray, List.set_cons_zero, List.set_cons_succ, i64_w, i32_w]
   rfl
  refine pure_ (i := 5) (N := (some 66)) (v := ?_) (a' := ?_) #[true, true, true, true, true, true, false] rfl rfl (any_of HT_.out (by kernel_rfl)) (fun _ _ _ h => h) (Or.inl ⟨by rfl, ?_⟩) ?_ ?_
  rotate_left
  ·intro w'
   go_simp
   with_reducible rfl
  rotate_left
  ·simp only [Act.put, List.setIfInBounds_toArray, List.set_cons_zero, List.set_cons_succ, i64_w, i32_w]
   rfl
  refine last_ (i := 6) (N := none) #[true, true, true, true, true, true, true] rfl rfl (one_of HT_.out (by kernel_rfl)) (by decide) (fun K hK => ?_)
  refine store_mid_ 50 (.tmp 66) (.tmp 63) rfl (by rfl) rfl g (1 + k * 4) #[.int .i64 (s.a k).id, .int .i64 (s.a k).nx, .int .i64 (ackP (s.a k).nx (takeL (s.a k).ws (r : Int))), .slice A1 (takeL (s.a k).ws (r : Int)).length c1] rfl rfl (there_blk HL.out.hg (by rw [HL.out.cells.sz]; show 1 + k * 4 + 4 ≤ 28; omega)) (by kernel_rfl) (by simp [Value.oneCell']) ?_
  have HL7 := hd (HL.out.put_a (v := (.slice A1 (takeL (s.a k).ws (r : Int)).length c1)) (x := (⟨(s.a k).id, (s.a k).nx, ackP (s.a k).nx (takeL (s.a k).ws (r : Int)), takeL (s.a k).ws (r : Int)⟩ : Ak)) hk hR5.out)
  have T7 := turn_cells HL.out.hg HL.out.gb (1 + k * 4) (cells4 (⟨(s.a k).id, (s.a k).nx, ackP (s.a k).nx (takeL (s.a k).ws (r : Int)), takeL (s.a k).ws (r : Int)⟩ : Ak) (.slice A1 (takeL (s.a k).ws (r : Int)).length c1))
  replace HB := hd (HB.out.trans T7.below)
  replace HX := hd (T7.keep _ _ _ HX.out (by decide))
  refine hK.out _ _ ?_
  clear hK K T7 hR5 hg5 HL hHeld
  have HL := HL7
  clear HL7
  unfold cells4 at HL HB HX
  dsimp only at HL HB HX
  generalize World.setCells _ _ _ _ = w7 at HL HB HX ⊢
  refine done_ (done_of HT_.out (by kernel_rfl)) ?_
  clear HT_ HW_
  go_wp2_with fail
  refine start_ (n := 12) (S := fun w' => w'.heap[g]? = some (.cells (set4 cs (1 + k * 4) (⟨(s.a k).id, (s.a k).nx, ackP (s.a k).nx (takeL (s.a k).ws (r : Int)), takeL (s.a k).ws (r : Int)⟩ : Ak) (.slice A1 (takeL (s.a k).ws (r : Int)).length c1)) 67 (0, 0)) ∧ w'.heap[gx]? = some (.cells #[.int .i64 ((k : Int) + 1), .int .i64 (r : Int), .int .i64 v] 75 (0, 0)) ∧ w'.heap[bf k]? = some (.cells (row250 (s.got k)) 3 (0, 0))) (ds := [11]) kakes12 (by kernel_rfl) rfl rfl ⟨HL.out.hg, HX.out, (HL.out.og k hk).2⟩ (fun hHeld => ?_)
  refine with_tabW takes.tab6 takes.bits6 (fun HT_ HW_ => ?_)
  have HL0 := HL
  have HL : Hd (Lay base g w7.drew _ _ _ _ _ _ _ _) := hd (HL0.out.below (below_drew1 (Below.refl _ _)))
  have HB0 := HB
  have HB : Hd (Below base w0 w7.drew) := hd (below_drew1 HB0.out)
  have HX0 := HX
  have HX : Hd (w7.drew.heap[gx]? = _) := hd HX0.out
  clear HL0 HB0 HX0
  have hbs : base ≤ w7.drew.heap.size := HL.out.bs
  generalize w7.drew = w8 at HL HB HX hHeld hbs ⊢
  refine pure_ (i := 0) (N := (some 67)) (v := ?_) (a' := ?_) kakes11 rfl rfl (any_of HT_.out (by kernel_rfl)) (fun _ _ _ h => h) (Or.inl ⟨by rfl, ?_⟩) ?_ ?_
  rotate_left
  ·intro w'
   go_simp
   with_reducible rfl
  rotate_left
  ·simp only [Act.put, List.setIfInBounds_toArray, List.set_cons_zero, List.set_cons_succ, i64_w, i32_w]
   rfl
  refine pure_ (i := 1) (N := (some 68)) (v := ?_) (a' := ?_) kakes10 rfl rfl (any_of HT_.out (by kernel_rfl)) (fun _ _ _ h => h) (Or.inl ⟨by rfl, ?_⟩) ?_ ?_
  rotate_left
  ·intro w'
   go_simp
   with_reducible rfl
  rotate_left
  ·simp only [Act.put, List.setIfInBounds_toArray, List.set_cons_zero, List.set_cons_succ, i64_w, i32_w]
   rfl
  refine pure_ (i := 2) (N := (some 69)) (v := ?_) (a' := ?_) kakes9 rfl rfl (any_of HT_.out (by kernel_rfl)) (fun _ _ _ h => h) (Or.inl ⟨by rfl, ?_⟩) ?_ ?_
  rotate_left
  ·intro w'
   go_simp
   with_reducible rfl
  rotate_left
  ·simp only [Act.put, List.setIfInBounds_toArray, List.set_cons_zero, List.set_cons_succ, i64_w, i32_w]
   rfl
  refine pure_ (i := 3) (N := (some 70)) (v := ?_) (a' := ?_) kakes8 rfl rfl (any_of HT_.out (by kernel_rfl)) (fun _ _ _ h => h) (Or.inl ⟨by rfl, ?_⟩) ?_ ?_
  rotate_left
  ·intro w'
   go_simp
   with_reducible rfl
  rotate_left
  ·simp only [Act.put, List.setIfInBounds_toArray, List.set_cons_zero, List.set_cons_succ, i64_w, i32_w]
   rfl
  refine pure_ (i := 4) (N := (some 71)) (v := ?_) (a' := ?_) kakes7 rfl rfl (any_of HT_.out (by kernel_rfl)) (fun _ _ _ h => h) (Or.inl ⟨by rfl, ?_⟩) ?_ ?_
  rotate_left
  ·intro w'
   go_simp
   with_reducible rfl
  rotate_left
  ·simp only [Act.put, List.setIfInBounds_toArray, List.set_cons_zero, List.set_cons_succ, i64_w, i32_w]
   rfl
  refine take_ (i := 5) (N := (some 72)) (v := ?_) (a' := ?_) kakes6 rfl rfl (take_ofW HT_.out HW_.out (by kernel_rfl)) (fun _ _ _ h => h) (Or.inl ⟨by rfl, ?_⟩) hHeld ?_ ?_
  rotate_left
  ·rintro w' ⟨s0, s1, s2⟩
   have f0 := (blk_cell s0 (23 + k)).trans (HL.out.cells.cf k hk)
   unfold arrC at f0
   go_simp
   with_reducible rfl
  rotate_left
  ·simp only [Act.put, List.setIfInBounds_toArray, List.set_cons_zero, List.set_cons_succ, i64_w, i32_w]
   rfl
  refine pure_ (i := 6) (N := (some 73)) (v := ?_) (a' := ?_) kakes5 rfl rfl (any_of HT_.out (by kernel_rfl)) (fun _ _ _ h => h) (Or.inl ⟨by rfl, ?_⟩) ?_ ?_
  rotate_left
  ·intro w'
   go_simp
   with_reducible rfl
  rotate_left
  ·simp only [Act.put, List.setIfInBounds_toArray, List.set_cons_zero, List.set_cons_succ, i64_w, i32_w]
   rfl
  refine take_ (i := 7) (N := (some 74)) (v := ?_) (a' := ?_) kakes4 rfl rfl (take_ofW HT_.out HW_.out (by kernel_rfl)) (fun _ _ _ h => h) (Or.inl ⟨by rfl, ?_⟩) hHeld ?_ ?_
  rotate_left
  ·rintro w' ⟨s0, s1, s2⟩
   have e0 := (blk_cell s1 0).trans rfl
   have e1 := (blk_cell s1 1).trans rfl
   have e2 := (blk_cell s1 2).trans rfl
   go_simp
   with_reducible rfl
  rotate_left
  ·simp only [Act.put, List.setIfInBounds_toArray, List.set_cons_zero, List.set_cons_succ, i64_w, i32_w]
   rfl
  refine pure_ (i := 8) (N := (some 75)) (v := ?_) (a' := ?_) kakes3 rfl rfl (any_of HT_.out (by kernel_rfl)) (fun _ _ _ h => h) (Or.inl ⟨by rfl, ?_⟩) ?_ ?_
  rotate_left
  ·intro w'
   go_simp
   with_reducible rfl
  rotate_left
  ·simp only [Act.put, List.setIfInBounds_toArray, List.set_cons_zero, List.set_cons_succ, i64_w, i32_w]
   rfl
  refine take_ (i := 9) (N := (some 76)) (v := ?_) (a' := ?_) kakes2 rfl rfl (take_ofW HT_.out HW_.out (by kernel_rfl)) (fun _ _ _ h => h) (Or.inl ⟨by rfl, ?_⟩) hHeld ?_ ?_
  rotate_left
  ·rintro w' ⟨s0, s1, s2⟩
   have e0 := (blk_cell s1 0).trans rfl
   have e1 := (blk_cell s1 1).trans rfl
   have e2 := (blk_cell s1 2).trans rfl
   go_simp
   with_reducible rfl
  rotate_left
  ·simp only [Act.put, List.setIfInBounds_toArray, List.set_cons_zero, List.set_cons_succ, i64_w, i32_w]
   rfl
  refine pure_ (i := 10) (N := (some 77)) (v := ?_) (a' := ?_) kakes1 rfl rfl (any_of HT_.out (by kernel_rfl)) (fun _ _ _ h => h) (Or.inl ⟨by rfl, ?_⟩) ?_ ?_
  rotate_left
  ·intro w'
   go_simp
   with_reducible rfl
  rotate_left
  ·simp only [Act.put, List.setIfInBounds_toArray, List.set_cons_zero, List.set_cons_succ, i64_w, i32_w]
   rfl
  refine last_ (i := 11) (N := none) kakes0 rfl rfl (one_of HT_.out (by kernel_rfl)) (by decide) (fun K hK => ?_)
  have cf := (blk_cell (HL.out.og k hk).2 r).trans (row250_at _ r (by omega))
  have ff := blk_frozen (HL.out.og k hk).2 r
  refine skip_ (w1 := w8.setCell ⟨bf k, r, none⟩ (.int .i64 v)) (by rfl) rfl ?_ ?_
  ·go_simp
  have HL9 := hd (HL.out.put_g hk r v)
  have HB9 := hd (HB.out.trans (turn_set (j := r) (HL.out.og k hk).2 (HL.out.og k hk).1 (.int .i64 v)).below)
  refine hK.out _ _ ?_
  clear hK K
  refine done_ (done_of HT_.out (by kernel_rfl)) ?_
  clear HT_ HW_
  go_wp2
  go_ret
  exact ⟨rfl, ⟨_, _, _, _, _, _, _, HL9.out⟩, HB9.out⟩

end Go.Proofs.Ytafnjlgdjhegaaa.Pr
