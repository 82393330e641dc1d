-- MINIFIED by wip/tools/minify.py
/-
 account's store: Take.
-/
import Derived.Test.YtinpgejkkfpckaaHSt
import Derived.Test.YtinpgejkkfpckaaHIns
import Derived.Test.YtinpgejkkfpckaaHRightA
namespace Go.Proofs.Ytinpgejkkfpckaa.Pr
open Go.RowKit Go.Proofs.YtinpgejkkfpckaaW.PrintWords Go.Proofs.YtinpgejkkfpckaaW.PrintLast Go.Proofs.YtinpgejkkfpckaaW.PrintMore Go.Proofs.YtinpgejkkfpckaaG
set_option linter.unusedVariables false
set_option linter.unusedSimpArgs false
abbrev kTake0 : Array Bool := #[true, true, true, true, true, true, true, true, true, true, true, true]
abbrev kTake1 : Array Bool := #[true, true, true, true, true, true, true, true, true, true, true, false]
abbrev kTake2 : Array Bool := #[true, true, true, true, true, true, true, true, true, true, false, false]
abbrev kTake3 : Array Bool := #[true, true, true, true, true, true, true, true, true, false, false, false]
abbrev kTake4 : Array Bool := #[true, true, true, true, true, true, true, true, false, false, false, false]
abbrev kTake5 : Array Bool := #[true, true, true, true, true, true, true, false, false, false, false, false]
abbrev kTake6 : Array Bool := #[true, true, true, true, true, true, false, false, false, false, false, false]
abbrev kTake8 : Array Bool := #[true, true, true, true, true, false, false, false, false, false, false, false]
abbrev kTake10 : Array Bool := #[true, true, true, true, false, false, false, false, false, false, false, false]
abbrev kTake12 : Array Bool := #[true, true, true, false, false, false, false, false, false, false, false, false]
abbrev kTake14 : Array Bool := #[true, true, false, false, false, false, false, false, false, false, false, false]
abbrev kTake16 : Array Bool := #[true, false, false, false, false, false, false, false, false, false, false, false]
abbrev kTake18 : Array Bool := #[false, false, false, false, false, false, false, false, false, false, false, false]
def rightPast (p : Past) : Bool := rightP p.id p.what p.at_ p.acc p.usr p.nodes p.cores p.st
/-- What Take tells, and what is known then. -/
def takeT (P : List Past) (ids : List Int) (p : Past) : Bool × Int × List Past × List Int :=
 if rightPast p = true then
  if (getP P p.id p.what).isSome = true then (false, 0, P, ids)
  else if p.id ∈ ids then (true, 0, P ++ [p], insI ids p.id)
  else if 4096 ≤ ids.length then (false, 5, P, ids)
  else (true, 0, P ++ [p], insI ids p.id)
 else (false, 2, P, ids)
def TakeIs (w : World) (base : Nat) (ok : Nat → Prop) (s : Nat) (t : Bool × Int × List Past × List Int) (e : Ending) (w' : World) : Prop :=
 e = .returned (.tuple #[.bool t.1, .int .i64 t.2.1]) ∧ St w' base ok s t.2.2.1 t.2.2.2 ∧ Off w w' ok

section
variable {w w' : World} {base s m : Nat} {ok : Nat → Prop} {P : List Past} {ids : List Int} {v : Value}
theorem St.row (h : St w base ok s P ids) (h0 : w.cell? ⟨s, 0, none⟩ = some (.map (some m))) (h1 : w.cell? ⟨s, 1, none⟩ = some v) :
  ok s ∧ ok m ∧ m ≠ s ∧ base ≤ s ∧ base ≤ m ∧ w.heap[s]? = some (.cells #[.map (some m), v] 70 (0, 0)) ∧ MapP w m P ∧ Kd.R (Kd.int .i64) 3 w base (fun k => ok k ∧ k ≠ s ∧ k ≠ m) v ids := by
 obtain ⟨m', v', a1, a2, a3, a4, a5, a6, a7, a8⟩ := h
 have e0 : some (Value.map (some m')) = some (.map (some m)) := ((blk_cell a6 0).trans rfl).symm.trans h0
 have e1 : some v' = some v := ((blk_cell a6 1).trans rfl).symm.trans h1
 cases e0
 cases e1
 exact ⟨a1, a2, a3, a4, a5, a6, a7, a8⟩
/-- An event is laid into the map. -/
theorem St.put {p : Past} (h : St w base ok s P ids) (h0 : w.cell? ⟨s, 0, none⟩ = some (.map (some m))) (hm : MapIs w' m (P.map ent ++ [((p.id, p.what), pastV p)])) (hg : w.grownBy w' (some m)) : St w' base ok s (P ++ [p]) ids ∧ Off w w' ok := by
 obtain ⟨m', v', a1, a2, a3, a4, a5, a6, a7, a8⟩ := h
 have e0 : some (Value.map (some m')) = some (.map (some m)) := ((blk_cell a6 0).trans rfl).symm.trans h0
 cases e0
 refine ⟨⟨m, v', a1, a2, a3, a4, a5, blk_grown a6 hg (fun e => a3 (by injection e with e; exact e.symm)), ?_, Kd.R_grown a8 hg fun k hk e => hk.2.2 (by injection e)⟩, ⟨hg.os, hg.tape, hg.output, hg.size, fun k hk hn => hg.block k hk fun e => hn (by injection e with e; rw [e]; exact a2)⟩⟩
 unfold MapP
 rw [List.map_append]
 exact hm
/-- The ids have got one more. -/
theorem St.inserted {w1 : World} {o : Obj} {v1 : Value} {ids1 : List Int} (h : St w base ok s P ids) (h0 : w.cell? ⟨s, 0, none⟩ = some (.map (some m))) (h1 : w.cell? ⟨s, 1, none⟩ = some v)
  (hR : Kd.R (Kd.int .i64) 3 w1 base (fun k => ok k ∧ k ≠ s ∧ k ≠ m) v1 ids1) (hg : (w.alloc o).grownBy w1 v.ownBlock) :
  St (w1.setCell ⟨s, 1, none⟩ v1) base ok s P ids1 ∧ Off w (w1.setCell ⟨s, 1, none⟩ v1) ok ∧ (∀ g t cs, t ≠ 3 → g ≠ s → w.heap[g]? = some (.cells cs t (0, 0)) → (w1.setCell ⟨s, 1, none⟩ v1).heap[g]? = some (.cells cs t (0, 0))) ∧ w1.cell? ⟨s, 1, none⟩ = some v ∧ w1.frozen? ⟨s, 1, none⟩ = false ∧ (w1.setCell ⟨s, 1, none⟩ v1).cell? ⟨s, 0, none⟩ = some (.map (some m)) := by
 obtain ⟨a1, a2, a3, a4, a5, a6, a7, a8⟩ := h.row h0 h1
 have l1 := blk_lt a6
 have l2 := a7.lt
 have hvs : ∀ k, v.ownBlock = some k → ok k ∧ k ≠ s ∧ k ≠ m := fun k hk => a8.1 k hk
 have b6 : w1.heap[s]? = some (.cells #[.map (some m), v] 70 (0, 0)) := blk_grown (blk_alloc a6 o) hg fun e => (hvs s e.symm).2.1 rfl
 have b7 : MapP w1 m P := a7.same ((hg.block m (by simp; omega) fun e => (hvs m e.symm).2.2 rfl).trans (Below.heap_alloc w o m l2))
 refine ⟨⟨m, v1, a1, a2, a3, a4, a5, blk_put b6 1 v1 rfl, b7.same (Below.heap_setCell w1 _ _ m a3), Kd.R_far hR (fun k hk => hk.2.1) v1⟩, ⟨hg.os, hg.tape, hg.output, ?_, fun k hk hn => ?_⟩, fun g t cs ht hgs hb => ?_, (blk_cell b6 1).trans rfl, blk_frozen b6 1, ?_⟩
 ·have := hg.size
  simp [World.setCell] at this ⊢
  omega
 ·rw [Below.heap_setCell w1 _ _ k (fun e => hn (by rw [e]; exact a1)), hg.block k (by simp; omega) (fun e => hn (hvs k e.symm).1), Below.heap_alloc w o k hk]
 ·rw [Below.heap_setCell w1 _ _ g hgs]
  exact blk_grown (blk_alloc hb o) hg (Kd.R_ne a8 hb (fun e => ht e.symm))
 ·exact (blk_cell (blk_put b6 1 v1 rfl) 0).trans rfl
end
def account_Take.T6 : Bool × List (List Nat × List Nat) := (true, [([], []), ([0], [0]), ([1], [1]), ([2], [2]), ([], []), ([3, 4], [3, 4]), ([5], [5]), ([6], [6]), ([6], [6]), ([], []), ([9, 7, 0, 1, 2, 3, 4, 5, 6, 7, 9], [7, 9]), ([8, 10, 0, 1, 2, 3, 4, 5, 6, 7, 8, 9, 10], [8])])
def account_Take.B6 : List Nat := [0, 1, 3, 7, 0, 31, 63, 127, 127, 0, 767, 2047]
theorem account_Take.tab6 : rtab .any (opsOf Try.f17 6) = account_Take.T6 := by kernel_rfl
theorem account_Take.bits6 : waitsOk account_Take.T6.2 account_Take.B6 = true := by kernel_rfl
def account_Take.T9 : Bool × List (List Nat × List Nat) := (true, [([], []), ([0], [0]), ([1], [1]), ([2], [2]), ([], []), ([4], [4]), ([3, 5], [3, 5]), ([6], [6]), ([7], [7]), ([7], [7]), ([8, 6, 0, 1, 2, 3, 4, 5, 6, 7, 8], [8]), ([9, 10, 0, 1, 2, 3, 4, 5, 6, 7, 8, 9, 10], [9])])
def account_Take.B9 : List Nat := [0, 1, 3, 7, 0, 16, 63, 127, 255, 255, 511, 2047]
theorem account_Take.tab9 : rtab .any (opsOf Try.f17 9) = account_Take.T9 := by kernel_rfl
theorem account_Take.bits9 : waitsOk account_Take.T9.2 account_Take.B9 = true := by kernel_rfl
def account_Take.T14 : Bool × List (List Nat × List Nat) := (true, [([], []), ([0], [0]), ([1], [1]), ([2], [2]), ([], []), ([], []), ([3, 4, 5, 0, 1, 2, 3, 4, 5], [3, 4, 5])])
def account_Take.B14 : List Nat := [0, 1, 3, 7, 0, 0, 63]
theorem account_Take.tab14 : rtab .any (opsOf Try.f17 14) = account_Take.T14 := by kernel_rfl
theorem account_Take.bits14 : waitsOk account_Take.T14.2 account_Take.B14 = true := by kernel_rfl
def account_Take.T13 : Bool × List (List Nat × List Nat) := (true, [([], []), ([], []), ([1], [1]), ([2], [2]), ([3], [3]), ([], []), ([], []), ([6], [6]), ([7], [7]), ([4, 5, 8], [4, 5, 8]), ([0, 0, 1, 2, 3, 4, 5, 6, 7, 8, 9], [0]), ([10, 0, 1, 2, 3, 4, 5, 6, 7, 8, 9], [10]), ([11, 9, 9, 0, 1, 2, 3, 4, 5, 6, 7, 8, 9], [9, 11])])
def account_Take.B13 : List Nat := [0, 0, 2, 6, 14, 0, 0, 64, 192, 510, 1023, 2047, 4095]
theorem account_Take.tab13 : rtab .any (opsOf Try.f17 13) = account_Take.T13 := by kernel_rfl
theorem account_Take.bits13 : waitsOk account_Take.T13.2 account_Take.B13 = true := by kernel_rfl
set_option maxRecDepth 100000 in
set_option maxHeartbeats 4000000 in
theorem take_st {w : World} {base s : Nat} {ok : Nat → Prop} {P : List Past} {ids : List Int} (h : St w base ok s P ids) (hok : ∀ k, w.heap.size ≤ k → ok k) (hb : base ≤ w.heap.size) (hr : Rise ids) (hl : ids.length ≤ 4096) (p : Past) :
  Calls Try.prog 17 #[.pointer (some ⟨s, 0, none⟩), pastV p] w (TakeIs w base ok s (takeT P ids p)) := by
 have H := hd h
 have HOK := hd hok
 have HRI := hd hr
 clear h hok hr
 have HB0 := hd (below_alloc (Below.refl _ w) (.cells (pastCs p) 36))
 have hu36 := Try.underlying36
 have hu74 := Try.underlying74
 have hsl : s < w.heap.size := H.out.lt
 have h0 : ∃ m, w.cell? ⟨s, 0, none⟩ = some (.map (some m)) := by obtain ⟨m, A, c, h0, _⟩ := H.out.reads; exact ⟨m, h0⟩
 obtain ⟨m, h0⟩ := h0
 unfold pastV pastCs at *
 unfold TakeIs
 go_enter Try.func17, Try.ntmps17
 go_wp2_with fail
 refine (none_any s m _ (pw_cell_below HB0.out h0)).mono ?_
 rintro e w1 ⟨rfl, b1⟩
 have HB1 : Hd (Below w.heap.size w w1) := hd (below_then HB0.out HB0.out.size b1)
 have hbox : w1.heap[w.heap.size]? = some (.cells (pastCs p) 36 (0, 0)) := (b1.block _ (by simp)).trans (blk_new w _)
 unfold pastCs at hbox
 have HBX := hd hbox
 have l0 := (blk_cell hbox 0).trans rfl
 have l1 := (blk_cell hbox 1).trans rfl
 have l2 := (blk_cell hbox 2).trans rfl
 have l3 := (blk_cell hbox 3).trans rfl
 have l4 := (blk_cell hbox 4).trans rfl
 have l5 := (blk_cell hbox 5).trans rfl
 have l6 := (blk_cell hbox 6).trans rfl
 have l7 := (blk_cell hbox 7).trans rfl
 clear b1 hbox h0
 go_wp2_with fail
 refine (account_right_any _ _ _ _ _ _ _ _ w1).mono ?_
 rintro e w2 ⟨rfl, b2⟩
 have HB2 : Hd (Below w.heap.size w w2) := hd (below_then HB1.out HB1.out.size b2)
 have HBX2 := hd (blk_below HBX.out b2)
 clear b2 l0 l1 l2 l3 l4 l5 l6 l7 HBX HB1 HB0
 have H2 := hd (H.out.below HB2.out)
 obtain ⟨bR, hR⟩ : ∃ b, rightP p.id p.what p.at_ p.acc p.usr p.nodes p.cores p.st = b := ⟨_, rfl⟩
 rw [hR]
 have HRR := hd hR
 clear hR
 cases bR with
 | false =>
  have HE : Hd (takeT P ids p = (false, 2, P, ids)) := hd (by unfold takeT rightPast; rw [HRR.out]; rfl)
  go_wp2
  go_ret2
  rw [HE.out]
  exact ⟨rfl, H2.out, Off.of_below HB2.out⟩
 | true =>
  have r0 := (blk_cell HBX2.out 0).trans rfl
  have r1 := (blk_cell HBX2.out 1).trans rfl
  go_wp2_with fail
  have hkb : w.heap.size < w2.heap.size := blk_lt HBX2.out
  have HB3 : Hd (Below w.heap.size w (w2.alloc (.cells #[.int .i64 p.id, .int .u8 p.what] 74))) := hd (below_alloc HB2.out _)
  have HBX3 := hd (blk_alloc HBX2.out (.cells #[.int .i64 p.id, .int .u8 p.what] 74))
  have HKB3 := hd (blk_new w2 (.cells #[.int .i64 p.id, .int .u8 p.what] 74))
  have H3 := hd (H2.out.alloc (.cells #[.int .i64 p.id, .int .u8 p.what] 74))
  clear r0 r1 H2 HB2 HBX2
  generalize w2.heap.size = kb at HKB3 hkb ⊢
  generalize w2.alloc _ = w3 at HB3 HBX3 HKB3 H3 ⊢
  have HB4 : Hd (Below w.heap.size w w3.drew) := hd (below_drew1 HB3.out)
  have HBX4 : Hd (w3.drew.heap[w.heap.size]? = _) := hd (HBX3.out)
  have HKB4 : Hd (w3.drew.heap[kb]? = _) := hd (HKB3.out)
  have H4 := hd (H3.out.drewN 1)
  replace H4 : Hd (St w3.drew base ok s P ids) := H4
  clear HB3 HBX3 HKB3 H3
  obtain ⟨m, A, c, h40, h41, hm4, hc4, hC4⟩ := H4.out.reads
  obtain ⟨q, hq⟩ : ∃ q, (getP P p.id p.what).getD zeroPast = q := ⟨_, rfl⟩
  obtain ⟨bS, hbS⟩ : ∃ b, (getP P p.id p.what).isSome = b := ⟨_, rfl⟩
  refine start_ (n := 12) (S := fun w' => w'.cell? ⟨s, 0, none⟩ = some (.map (some m)) ∧ w'.cell? ⟨kb, 0, none⟩ = some (.int .i64 p.id) ∧ w'.cell? ⟨kb, 1, none⟩ = some (.int .u8 p.what) ∧ MapP w' m P) (ds := [10]) kTake18 (by kernel_rfl) rfl rfl ⟨h40, (blk_cell HKB4.out 0).trans rfl, (blk_cell HKB4.out 1).trans rfl, hm4⟩ (fun hHeld => ?_)
  refine with_tabW account_Take.tab6 account_Take.bits6 (fun HT_ HW_ => ?_)
  generalize w3.drew = w4 at HB4 HBX4 HKB4 H4 h40 h41 hm4 hC4 hHeld ⊢
  obtain ⟨s0, s1, s2, sm⟩ := hHeld
  have HA := hd (below_alloc (Below.refl _ w4) (.cells (pastCs zeroPast) 36))
  have hHeld := And.intro s0 (And.intro s1 (And.intro s2 sm))
  refine pure_ (i := 0) (N := (some 24)) (v := ?_) (a' := ?_) kTake16 rfl rfl (any_of HT_.out (by kernel_rfl)) (fun _ _ _ h => h) (Or.inl ⟨by rfl, ?_⟩) ?_ ?_
  rotate_left
  ·intro w'
   go_simp
   with_reducible rfl
  rotate_left
  ·simp only [Act.put, List.setIfInBounds_toArray, List.set_cons_zero, List.set_cons_succ, i64_w, i32_w]
   rfl
  refine pure_ (i := 1) (N := (some 25)) (v := ?_) (a' := ?_) kTake14 rfl rfl (any_of HT_.out (by kernel_rfl)) (fun _ _ _ h => h) (Or.inl ⟨by rfl, ?_⟩) ?_ ?_
  rotate_left
  ·intro w'
   go_simp
   with_reducible rfl
  rotate_left
  ·simp only [Act.put, List.setIfInBounds_toArray, List.set_cons_zero, List.set_cons_succ, i64_w, i32_w]
   rfl
  refine pure_ (i := 2) (N := (some 26)) (v := ?_) (a' := ?_) kTake12 rfl rfl (any_of HT_.out (by kernel_rfl)) (fun _ _ _ h => h) (Or.inl ⟨by rfl, ?_⟩) ?_ ?_
  rotate_left
  ·intro w'
   go_simp
   with_reducible rfl
  rotate_left
  ·simp only [Act.put, List.setIfInBounds_toArray, List.set_cons_zero, List.set_cons_succ, i64_w, i32_w]
   rfl
  refine take_ (i := 3) (N := (some 27)) (v := ?_) (a' := ?_) kTake10 rfl rfl (take_ofW HT_.out HW_.out (by kernel_rfl)) (fun _ _ _ h => h) (Or.inl ⟨by rfl, ?_⟩) hHeld ?_ ?_
  rotate_left
  ·rintro w' ⟨s0, s1, s2, s3⟩
   go_simp
   with_reducible rfl
  rotate_left
  ·simp only [Act.put, List.setIfInBounds_toArray, List.set_cons_zero, List.set_cons_succ, i64_w, i32_w]
   rfl
  refine take_ (i := 4) (N := (some 28)) (v := ?_) (a' := ?_) kTake8 rfl rfl (take_ofW HT_.out HW_.out (by kernel_rfl)) (fun _ _ _ h => h) (Or.inl ⟨by rfl, ?_⟩) hHeld ?_ ?_
  rotate_left
  ·rintro w' ⟨s0, s1, s2, s3⟩
   go_simp
   with_reducible rfl
  rotate_left
  ·simp only [Act.put, List.setIfInBounds_toArray, List.set_cons_zero, List.set_cons_succ, i64_w, i32_w]
   rfl
  refine take_ (i := 5) (N := (some 29)) (v := ?_) (a' := ?_) kTake6 rfl rfl (take_ofW HT_.out HW_.out (by kernel_rfl)) (fun _ _ _ h => h) (Or.inl ⟨by rfl, ?_⟩) hHeld ?_ ?_
  rotate_left
  ·rintro w' ⟨s0, s1, s2, s3⟩
   have hl := lookP s3 p.id p.what
   rw [hq, hbS] at hl
   simp only [keyV, pastV, pastCs] at hl
   go_simp
   with_reducible rfl
  rotate_left
  ·simp only [Act.put, List.setIfInBounds_toArray, List.set_cons_zero, List.set_cons_succ, i64_w, i32_w]
   rfl
  refine pure_ (i := 6) (N := (some 23)) (v := ?_) (a' := ?_) kTake5 rfl rfl (any_of HT_.out (by kernel_rfl)) (fun _ _ _ h => h) (Or.inl ⟨by rfl, ?_⟩) ?_ ?_
  rotate_left
  ·intro w'
   go_simp
   with_reducible rfl
  rotate_left
  ·simp only [Act.put, List.setIfInBounds_toArray, List.set_cons_zero, List.set_cons_succ, i64_w, i32_w]
   rfl
  refine pure_ (i := 7) (N := (some 30)) (v := ?_) (a' := ?_) kTake4 rfl rfl (any_of HT_.out (by kernel_rfl)) (fun _ _ _ h => h) (Or.inl ⟨by rfl, ?_⟩) ?_ ?_
  rotate_left
  ·intro w'
   go_simp
   with_reducible rfl
  rotate_left
  ·simp only [Act.put, List.setIfInBounds_toArray, List.set_cons_zero, List.set_cons_succ, i64_w, i32_w]
   rfl
  refine pure_ (i := 8) (N := (some 31)) (v := ?_) (a' := ?_) kTake3 rfl rfl (any_of HT_.out (by kernel_rfl)) (fun _ _ _ h => h) (Or.inl ⟨by rfl, ?_⟩) ?_ ?_
  rotate_left
  ·intro w'
   go_simp
   with_reducible rfl
  rotate_left
  ·simp only [Act.put, List.setIfInBounds_toArray, List.set_cons_zero, List.set_cons_succ, i64_w, i32_w]
   rfl
  refine one_ (i := 9) (N := (some 7)) kTake2 rfl rfl (one_of HT_.out (by kernel_rfl)) (by decide) (fun K hK => ?_)
  refine value_ (w1 := w4.alloc (.cells (pastCs zeroPast) 36)) (v := .pointer (some ⟨w4.heap.size, 0, none⟩)) (by rfl) rfl ?_ ?_
  ·go_simp
   first | rfl | (simp [pastCs, zeroPast]; done)
  refine hK.out _ _ ⟨pw_cell_below HA.out s0, pw_cell_below HA.out s1, pw_cell_below HA.out s2, sm.below HA.out⟩ (fun hHeld => ?_)
  clear hK K
  refine norm_ (a' := ?_) ?_ ?_
  rotate_left
  ·show Act.put _ (some 7) _ = _
   simp only [Act.put, List.setIfInBounds_toArray, List.set_cons_zero, List.set_cons_succ, i64_w, i32_w]
   rfl
  refine last_ (i := 10) (N := none) kTake1 rfl rfl (one_of HT_.out (by kernel_rfl)) (by decide) (fun K hK => ?_)
  refine skip_ (w1 := w4.alloc (.cells (pastCs q) 36)) (by rfl) rfl ?_ ?_
  ·simp only [pastCs, zeroPast]
   go_simp
  refine hK.out _ _ ?_
  clear hK K
  refine pure_ (i := 11) (N := (some 8)) (v := ?_) (a' := ?_) kTake0 rfl rfl (any_of HT_.out (by kernel_rfl)) (fun _ _ _ h => h) (Or.inl ⟨by rfl, ?_⟩) ?_ ?_
  rotate_left
  ·intro w'
   go_simp
   with_reducible rfl
  rotate_left
  ·simp only [Act.put, List.setIfInBounds_toArray, List.set_cons_zero, List.set_cons_succ, i64_w, i32_w]
   rfl
  refine done_ (done_of HT_.out (by kernel_rfl)) ?_
  clear HT_ HW_
  have HB5 : Hd (Below w.heap.size w (w4.alloc (.cells (pastCs q) 36))) := hd (below_alloc HB4.out _)
  have HBX5 := hd (blk_alloc HBX4.out (.cells (pastCs q) 36))
  have HKB5 := hd (blk_alloc HKB4.out (.cells (pastCs q) 36))
  have H5 := hd (H4.out.alloc (.cells (pastCs q) 36))
  have HBS := hd hbS
  clear HB4 HBX4 HKB4 H4 h40 h41 hm4 hC4 hc4 s0 s1 s2 sm HA hHeld hq hbS
  generalize w4.heap.size = u7
  generalize w4.alloc _ = w5 at HB5 HBX5 HKB5 H5 ⊢
  cases bS with
  | true =>
   have HE : Hd (takeT P ids p = (false, 0, P, ids)) := hd (by unfold takeT rightPast; rw [HRR.out, HBS.out]; rfl)
   go_wp2
   go_ret2
   rw [HE.out]
   exact ⟨rfl, H5.out, Off.of_below HB5.out⟩
  | false =>
   have HNO : Hd (findL p.id p.what (P.map ent) 0 = none) := hd (by have := (findL_getP p.id p.what P 0).2; rw [HBS.out] at this; cases hf : findL p.id p.what (P.map ent) 0 with | none => rfl | some _ => rw [hf] at this; cases this)
   obtain ⟨m, A, c, h50, h51, hm5, hc5, hC5⟩ := H5.out.reads
   have HM5 := hd hm5
   have HC5 := hd hC5
   have HCC := hd hc5
   have b50 := (blk_cell HBX5.out 0).trans rfl
   clear hm5 hC5 hc5 b50
   go_wp2_with fail
   have HB6 : Hd (Below w.heap.size w w5.drew) := hd (below_drew1 HB5.out)
   have HBX6 : Hd (w5.drew.heap[w.heap.size]? = _) := hd (HBX5.out)
   have HKB6 : Hd (w5.drew.heap[kb]? = _) := hd (HKB5.out)
   have H6 : Hd (St w5.drew base ok s P ids) := hd (H5.out.drewN 1)
   have HC6 : Hd (Kd.C (Kd.int .i64) w5.drew A ids.length ids) := hd (Kd.C_drewN HC5.out 1)
   have h61 : w5.drew.cell? ⟨s, 1, none⟩ = some (.slice A ids.length c) := h51
   have h62 : w5.drew.cell? ⟨w.heap.size, 0, none⟩ = some (.int .i64 p.id) := (blk_cell HBX6.out 0).trans rfl
   clear HB5 HBX5 HKB5 H5 HC5 h50 h51
   refine start_ (n := 12) (S := fun w' => w'.cell? ⟨s, 1, none⟩ = some (.slice A ids.length c) ∧ w'.cell? ⟨w.heap.size, 0, none⟩ = some (.int .i64 p.id)) (ds := []) kTake18 (by kernel_rfl) rfl rfl ⟨h61, h62⟩ (fun hHeld => ?_)
   refine with_tabW account_Take.tab9 account_Take.bits9 (fun HT_ HW_ => ?_)
   generalize w5.drew = w6 at HB6 HBX6 HKB6 H6 HC6 h61 h62 hHeld ⊢
   refine pure_ (i := 0) (N := (some 34)) (v := ?_) (a' := ?_) kTake16 rfl rfl (any_of HT_.out (by kernel_rfl)) (fun _ _ _ h => h) (Or.inl ⟨by rfl, ?_⟩) ?_ ?_
   rotate_left
   ·intro w'
    go_simp
    with_reducible rfl
   rotate_left
   ·simp only [Act.put, List.setIfInBounds_toArray, List.set_cons_zero, List.set_cons_succ, i64_w, i32_w]
    rfl
   refine pure_ (i := 1) (N := (some 35)) (v := ?_) (a' := ?_) kTake14 rfl rfl (any_of HT_.out (by kernel_rfl)) (fun _ _ _ h => h) (Or.inl ⟨by rfl, ?_⟩) ?_ ?_
   rotate_left
   ·intro w'
    go_simp
    with_reducible rfl
   rotate_left
   ·simp only [Act.put, List.setIfInBounds_toArray, List.set_cons_zero, List.set_cons_succ, i64_w, i32_w]
    rfl
   refine pure_ (i := 2) (N := (some 36)) (v := ?_) (a' := ?_) kTake12 rfl rfl (any_of HT_.out (by kernel_rfl)) (fun _ _ _ h => h) (Or.inl ⟨by rfl, ?_⟩) ?_ ?_
   rotate_left
   ·intro w'
    go_simp
    with_reducible rfl
   rotate_left
   ·simp only [Act.put, List.setIfInBounds_toArray, List.set_cons_zero, List.set_cons_succ, i64_w, i32_w]
    rfl
   refine take_ (i := 3) (N := (some 37)) (v := ?_) (a' := ?_) kTake10 rfl rfl (take_ofW HT_.out HW_.out (by kernel_rfl)) (fun _ _ _ h => h) (Or.inl ⟨by rfl, ?_⟩) hHeld ?_ ?_
   rotate_left
   ·rintro w' ⟨s0, s1⟩
    go_simp
    with_reducible rfl
   rotate_left
   ·simp only [Act.put, List.setIfInBounds_toArray, List.set_cons_zero, List.set_cons_succ, i64_w, i32_w]
    rfl
   refine pure_ (i := 4) (N := (some 38)) (v := ?_) (a' := ?_) kTake8 rfl rfl (any_of HT_.out (by kernel_rfl)) (fun _ _ _ h => h) (Or.inl ⟨by rfl, ?_⟩) ?_ ?_
   rotate_left
   ·intro w'
    go_simp
    with_reducible rfl
   rotate_left
   ·simp only [Act.put, List.setIfInBounds_toArray, List.set_cons_zero, List.set_cons_succ, i64_w, i32_w]
    rfl
   refine take_ (i := 5) (N := (some 39)) (v := ?_) (a' := ?_) kTake6 rfl rfl (take_ofW HT_.out HW_.out (by kernel_rfl)) (fun _ _ _ h => h) (Or.inl ⟨by rfl, ?_⟩) hHeld ?_ ?_
   rotate_left
   ·rintro w' ⟨s0, s1⟩
    go_simp
    with_reducible rfl
   rotate_left
   ·simp only [Act.put, List.setIfInBounds_toArray, List.set_cons_zero, List.set_cons_succ, i64_w, i32_w]
    rfl
   refine one_ (i := 6) (N := (some 40)) kTake5 rfl rfl (one_of HT_.out (by kernel_rfl)) (by decide) (fun K hK => ?_)
   refine goes_ Try.func36 (by kernel_rfl) rfl #[.slice A ids.length c, .int .i64 p.id] (by rfl) rfl rfl (by (try simp only [List.map_toArray, List.map_cons, List.map_nil]); first | done | rfl) ?_
   refine (slices_BinarySearch_int_int.calls (ids.length + 1) A c ids p.id _ _ _ HC6.out HCC.out (bs_spec ids HRI.out p.id (by omega))).mono ?_
   rintro e w7 ⟨rfl, nd, rfl⟩
   refine ⟨_, rfl, ?_⟩
   have HB7 : Hd (Below w.heap.size w (w6.drewN nd)) := hd (pw_below_drewN HB6.out nd)
   have HBX7 := hd (blk_drewN HBX6.out nd)
   have HKB7 := hd (blk_drewN HKB6.out nd)
   have H7 := hd (H6.out.drewN nd)
   have h71 : (w6.drewN nd).cell? ⟨s, 1, none⟩ = some (.slice A ids.length c) := h61
   have h72 : (w6.drewN nd).cell? ⟨w.heap.size, 0, none⟩ = some (.int .i64 p.id) := h62
   refine hK.out _ _ ⟨h71, h72⟩ (fun hHeld => ?_)
   clear hK K HB6 HBX6 HKB6 H6 HC6 h61 h62
   generalize w6.drewN nd = w7 at HB7 HBX7 HKB7 H7 h71 h72 hHeld ⊢
   refine norm_ (a' := ?_) ?_ ?_
   rotate_left
   ·show Act.put _ (some 40) _ = _
    simp only [Act.put, List.setIfInBounds_toArray, List.set_cons_zero, List.set_cons_succ, i64_w, i32_w]
    rfl
   refine pure_ (i := 7) (N := (some 33)) (v := ?_) (a' := ?_) kTake4 rfl rfl (any_of HT_.out (by kernel_rfl)) (fun _ _ _ h => h) (Or.inl ⟨by rfl, ?_⟩) ?_ ?_
   rotate_left
   ·intro w'
    go_simp
    with_reducible rfl
   rotate_left
   ·simp only [Act.put, List.setIfInBounds_toArray, List.set_cons_zero, List.set_cons_succ, i64_w, i32_w]
    rfl
   refine pure_ (i := 8) (N := (some 41)) (v := ?_) (a' := ?_) kTake3 rfl rfl (any_of HT_.out (by kernel_rfl)) (fun _ _ _ h => h) (Or.inl ⟨by rfl, ?_⟩) ?_ ?_
   rotate_left
   ·intro w'
    go_simp
    with_reducible rfl
   rotate_left
   ·simp only [Act.put, List.setIfInBounds_toArray, List.set_cons_zero, List.set_cons_succ, i64_w, i32_w]
    rfl
   refine pure_ (i := 9) (N := (some 42)) (v := ?_) (a' := ?_) kTake2 rfl rfl (any_of HT_.out (by kernel_rfl)) (fun _ _ _ h => h) (Or.inl ⟨by rfl, ?_⟩) ?_ ?_
   rotate_left
   ·intro w'
    go_simp
    with_reducible rfl
   rotate_left
   ·simp only [Act.put, List.setIfInBounds_toArray, List.set_cons_zero, List.set_cons_succ, i64_w, i32_w]
    rfl
   refine pure_ (i := 10) (N := (some 9)) (v := ?_) (a' := ?_) kTake1 rfl rfl (any_of HT_.out (by kernel_rfl)) (fun _ _ _ h => h) (Or.inl ⟨by rfl, ?_⟩) ?_ ?_
   rotate_left
   ·intro w'
    go_simp
    with_reducible rfl
   rotate_left
   ·simp only [Act.put, List.setIfInBounds_toArray, List.set_cons_zero, List.set_cons_succ, i64_w, i32_w]
    rfl
   refine pure_ (i := 11) (N := (some 10)) (v := ?_) (a' := ?_) kTake0 rfl rfl (any_of HT_.out (by kernel_rfl)) (fun _ _ _ h => h) (Or.inl ⟨by rfl, ?_⟩) ?_ ?_
   rotate_left
   ·intro w'
    go_simp
    with_reducible rfl
   rotate_left
   ·simp only [Act.put, List.setIfInBounds_toArray, List.set_cons_zero, List.set_cons_succ, i64_w, i32_w]
    rfl
   refine done_ (done_of HT_.out (by kernel_rfl)) ?_
   clear HT_ HW_
   clear hHeld
   obtain ⟨m, A2, c2, h70, h71b, hm7, hc7, hC7⟩ := H7.out.reads
   clear hc7 hC7 h71b
   by_cases hin : p.id ∈ ids
   ·rw [decide_eq_true hin]
    have HE : Hd (takeT P ids p = (true, 0, P ++ [p], insI ids p.id)) := hd (by unfold takeT rightPast; rw [HRR.out, HBS.out, if_pos hin]; rfl)
    have HI : Hd (insI ids p.id = ids) := hd (by unfold insI; rw [if_pos hin])
    clear h72 h71
    go_wp2_with fail
    have HO7 : Hd (Off w w7 ok) := hd (Off.of_below HB7.out)
    have H8 : Hd (St w7 base ok s P (insI ids p.id)) := hd (by rw [HI.out]; exact H7.out)
    have h80 : w7.cell? ⟨s, 0, none⟩ = some (.map (some m)) := h70
    have hm8 : MapIs w7 m (P.map ent) := hm7
    have HBX8 := HBX7
    have HKB8 := HKB7
    have HO8 := HO7
    clear HBX7 HKB7 HO7 h70 hm7
    have H14 : Hd (St w7.drew base ok s P (insI ids p.id)) := hd (H8.out.drewN 1)
    have HO14 : Hd (Off w w7.drew ok) := hd (HO8.out.trans (Off.of_below (below_drew1 (Below.refl _ _))) fun _ _ h => h)
    have h140 : w7.drew.cell? ⟨s, 0, none⟩ = some (.map (some m)) := h80
    have hm14 : MapIs w7.drew m (P.map ent) := hm8
    refine start_ (n := 7) (S := fun w' => w'.cell? ⟨s, 0, none⟩ = some (.map (some m)) ∧ w'.cell? ⟨kb, 0, none⟩ = some (.int .i64 p.id) ∧ w'.cell? ⟨kb, 1, none⟩ = some (.int .u8 p.what) ∧ w'.cell? ⟨w.heap.size, 0, none⟩ = some (.int .i64 p.id) ∧ w'.cell? ⟨w.heap.size, 1, none⟩ = some (.int .u8 p.what) ∧ w'.cell? ⟨w.heap.size, 2, none⟩ = some (.int .i64 p.at_) ∧ w'.cell? ⟨w.heap.size, 3, none⟩ = some (.string p.acc) ∧ w'.cell? ⟨w.heap.size, 4, none⟩ = some (.string p.usr) ∧ w'.cell? ⟨w.heap.size, 5, none⟩ = some (.int .i64 p.nodes) ∧ w'.cell? ⟨w.heap.size, 6, none⟩ = some (.int .i64 p.cores) ∧ w'.cell? ⟨w.heap.size, 7, none⟩ = some (.int .u8 p.st)) (ds := [6]) #[false, false, false, false, false, false, false] (by kernel_rfl) rfl rfl ⟨h80, (blk_cell HKB8.out 0).trans rfl, (blk_cell HKB8.out 1).trans rfl, (blk_cell HBX8.out 0).trans rfl, (blk_cell HBX8.out 1).trans rfl, (blk_cell HBX8.out 2).trans rfl, (blk_cell HBX8.out 3).trans rfl, (blk_cell HBX8.out 4).trans rfl, (blk_cell HBX8.out 5).trans rfl, (blk_cell HBX8.out 6).trans rfl, (blk_cell HBX8.out 7).trans rfl⟩ (fun hHeld => ?_)
    refine with_tabW account_Take.tab14 account_Take.bits14 (fun HT_ HW_ => ?_)
    generalize w7.drew = w14 at H14 h140 hm14 HO14 hHeld ⊢
    refine pure_ (i := 0) (N := (some 63)) (v := ?_) (a' := ?_) #[true, false, false, false, false, false, false] rfl rfl (any_of HT_.out (by kernel_rfl)) (fun _ _ _ h => h) (Or.inl ⟨by rfl, ?_⟩) ?_ ?_
    rotate_left
    ·intro w'
     go_simp
     with_reducible rfl
    rotate_left
    ·simp only [Act.put, List.setIfInBounds_toArray, List.set_cons_zero, List.set_cons_succ, i64_w, i32_w]
     rfl
    refine pure_ (i := 1) (N := (some 64)) (v := ?_) (a' := ?_) #[true, true, false, false, false, false, false] rfl rfl (any_of HT_.out (by kernel_rfl)) (fun _ _ _ h => h) (Or.inl ⟨by rfl, ?_⟩) ?_ ?_
    rotate_left
    ·intro w'
     go_simp
     with_reducible rfl
    rotate_left
    ·simp only [Act.put, List.setIfInBounds_toArray, List.set_cons_zero, List.set_cons_succ, i64_w, i32_w]
     rfl
    refine pure_ (i := 2) (N := (some 65)) (v := ?_) (a' := ?_) #[true, true, true, false, false, false, false] rfl rfl (any_of HT_.out (by kernel_rfl)) (fun _ _ _ h => h) (Or.inl ⟨by rfl, ?_⟩) ?_ ?_
    rotate_left
    ·intro w'
     go_simp
     with_reducible rfl
    rotate_left
    ·simp only [Act.put, List.setIfInBounds_toArray, List.set_cons_zero, List.set_cons_succ, i64_w, i32_w]
     rfl
    refine take_ (i := 3) (N := (some 66)) (v := ?_) (a' := ?_) #[true, true, true, true, false, false, false] rfl rfl (take_ofW HT_.out HW_.out (by kernel_rfl)) (fun _ _ _ h => h) (Or.inl ⟨by rfl, ?_⟩) hHeld ?_ ?_
    rotate_left
    ·rintro w' ⟨s0, s1, s2, s3, s4, s5, s6, s7, s8, s9, s10⟩
     go_simp
     with_reducible rfl
    rotate_left
    ·simp only [Act.put, List.setIfInBounds_toArray, List.set_cons_zero, List.set_cons_succ, i64_w, i32_w]
     rfl
    refine take_ (i := 4) (N := (some 67)) (v := ?_) (a' := ?_) #[true, true, true, true, true, false, false] rfl rfl (take_ofW HT_.out HW_.out (by kernel_rfl)) (fun _ _ _ h => h) (Or.inl ⟨by rfl, ?_⟩) hHeld ?_ ?_
    rotate_left
    ·rintro w' ⟨s0, s1, s2, s3, s4, s5, s6, s7, s8, s9, s10⟩
     go_simp
     with_reducible rfl
    rotate_left
    ·simp only [Act.put, List.setIfInBounds_toArray, List.set_cons_zero, List.set_cons_succ, i64_w, i32_w]
     rfl
    refine take_ (i := 5) (N := (some 68)) (v := ?_) (a' := ?_) #[true, true, true, true, true, true, false] rfl rfl (take_ofW HT_.out HW_.out (by kernel_rfl)) (fun _ _ _ h => h) (Or.inl ⟨by rfl, ?_⟩) hHeld ?_ ?_
    rotate_left
    ·rintro w' ⟨s0, s1, s2, s3, s4, s5, s6, s7, s8, s9, s10⟩
     go_simp
     with_reducible rfl
    rotate_left
    ·simp only [Act.put, List.setIfInBounds_toArray, List.set_cons_zero, List.set_cons_succ, i64_w, i32_w]
     rfl
    refine last_ (i := 6) (N := none) #[true, true, true, true, true, true, true] rfl rfl (one_of HT_.out (by kernel_rfl)) (by decide) (fun K hK => ?_)
    obtain ⟨w9, hrun, hm9, hg9⟩ := put_run hm14 p.id p.what HNO.out (pastV p)
    simp only [keyV, pastV, pastCs] at hrun
    refine skip_ (w1 := w9) (by rfl) rfl ?_ ?_
    ·go_simp
    refine hK.out _ _ ?_
    clear hK K hrun
    have HF := hd (St.put H14.out h140 hm9 hg9)
    have HFO : Hd (Off w w9 ok) := hd (HO14.out.trans HF.out.2 fun _ _ h => h)
    clear hm9 hg9
    refine done_ (done_of HT_.out (by kernel_rfl)) ?_
    clear HT_ HW_
    go_wp2
    go_ret2
    rw [HE.out]
    exact ⟨rfl, HF.out.1, HFO.out⟩
   ·rw [decide_eq_false hin]
    by_cases hlen : 4096 ≤ ids.length
    ·have HE : Hd (takeT P ids p = (false, 5, P, ids)) := hd (by unfold takeT rightPast; rw [HRR.out, HBS.out, if_neg hin, if_pos hlen]; rfl)
     have hlen' : (4096 : Int) ≤ (ids.length : Int) := by omega
     go_wp2_with fail
     go_ret2
     rw [HE.out]
     exact ⟨rfl, H7.out, Off.of_below HB7.out⟩
    ·have HE : Hd (takeT P ids p = (true, 0, P ++ [p], insI ids p.id)) := hd (by unfold takeT rightPast; rw [HRR.out, HBS.out, if_neg hin, if_neg hlen]; rfl)
     have hlen' : ¬ (4096 : Int) ≤ (ids.length : Int) := by omega
     go_wp2_with fail
     have HB13 : Hd (Below w.heap.size w w7.drew) := hd (below_drew1 HB7.out)
     have HBX13 : Hd (w7.drew.heap[w.heap.size]? = _) := hd (HBX7.out)
     have HKB13 : Hd (w7.drew.heap[kb]? = _) := hd (HKB7.out)
     have H13 : Hd (St w7.drew base ok s P ids) := hd (H7.out.drewN 1)
     have h130 : w7.drew.cell? ⟨s, 0, none⟩ = some (.map (some m)) := h70
     have h131 : w7.drew.cell? ⟨s, 1, none⟩ = some (.slice A ids.length c) := h71
     have h132 : w7.drew.cell? ⟨w.heap.size, 0, none⟩ = some (.int .i64 p.id) := h72
     clear HB7 HBX7 HKB7 h70 h71 h72
     refine start_ (n := 13) (S := fun w' => w'.cell? ⟨s, 1, none⟩ = some (.slice A ids.length c) ∧ w'.cell? ⟨w.heap.size, 0, none⟩ = some (.int .i64 p.id)) (ds := [12]) #[false, false, false, false, false, false, false, false, false, false, false, false, false] (by kernel_rfl) rfl rfl ⟨h131, h132⟩ (fun hHeld => ?_)
     refine with_tabW account_Take.tab13 account_Take.bits13 (fun HT_ HW_ => ?_)
     generalize w7.drew = w13 at HB13 HBX13 HKB13 H13 h130 h131 h132 hHeld ⊢
     refine pure_ (i := 0) (N := (some 51)) (v := ?_) (a' := ?_) #[true, false, false, false, false, false, false, false, false, false, false, false, false] rfl rfl (any_of HT_.out (by kernel_rfl)) (fun _ _ _ h => h) (Or.inl ⟨by rfl, ?_⟩) ?_ ?_
     rotate_left
     ·intro w'
      go_simp
      with_reducible rfl
     rotate_left
     ·simp only [Act.put, List.setIfInBounds_toArray, List.set_cons_zero, List.set_cons_succ, i64_w, i32_w]
      rfl
     refine pure_ (i := 1) (N := (some 52)) (v := ?_) (a' := ?_) #[true, true, false, false, false, false, false, false, false, false, false, false, false] rfl rfl (any_of HT_.out (by kernel_rfl)) (fun _ _ _ h => h) (Or.inl ⟨by rfl, ?_⟩) ?_ ?_
     rotate_left
     ·intro w'
      go_simp
      with_reducible rfl
     rotate_left
     ·simp only [Act.put, List.setIfInBounds_toArray, List.set_cons_zero, List.set_cons_succ, i64_w, i32_w]
      rfl
     refine pure_ (i := 2) (N := (some 53)) (v := ?_) (a' := ?_) #[true, true, true, false, false, false, false, false, false, false, false, false, false] rfl rfl (any_of HT_.out (by kernel_rfl)) (fun _ _ _ h => h) (Or.inl ⟨by rfl, ?_⟩) ?_ ?_
     rotate_left
     ·intro w'
      go_simp
      with_reducible rfl
     rotate_left
     ·simp only [Act.put, List.setIfInBounds_toArray, List.set_cons_zero, List.set_cons_succ, i64_w, i32_w]
      rfl
     refine pure_ (i := 3) (N := (some 54)) (v := ?_) (a' := ?_) #[true, true, true, true, false, false, false, false, false, false, false, false, false] rfl rfl (any_of HT_.out (by kernel_rfl)) (fun _ _ _ h => h) (Or.inl ⟨by rfl, ?_⟩) ?_ ?_
     rotate_left
     ·intro w'
      go_simp
      with_reducible rfl
     rotate_left
     ·simp only [Act.put, List.setIfInBounds_toArray, List.set_cons_zero, List.set_cons_succ, i64_w, i32_w]
      rfl
     refine take_ (i := 4) (N := (some 55)) (v := ?_) (a' := ?_) #[true, true, true, true, true, false, false, false, false, false, false, false, false] rfl rfl (take_ofW HT_.out HW_.out (by kernel_rfl)) (fun _ _ _ h => h) (Or.inl ⟨by rfl, ?_⟩) hHeld ?_ ?_
     rotate_left
     ·rintro w' ⟨s0, s1⟩
      go_simp
      with_reducible rfl
     rotate_left
     ·simp only [Act.put, List.setIfInBounds_toArray, List.set_cons_zero, List.set_cons_succ, i64_w, i32_w]
      rfl
     refine pure_ (i := 5) (N := (some 56)) (v := ?_) (a' := ?_) #[true, true, true, true, true, true, false, false, false, false, false, false, false] rfl rfl (any_of HT_.out (by kernel_rfl)) (fun _ _ _ h => h) (Or.inl ⟨by rfl, ?_⟩) ?_ ?_
     rotate_left
     ·intro w'
      go_simp
      with_reducible rfl
     rotate_left
     ·simp only [Act.put, List.setIfInBounds_toArray, List.set_cons_zero, List.set_cons_succ, i64_w, i32_w]
      rfl
     refine pure_ (i := 6) (N := (some 57)) (v := ?_) (a' := ?_) #[true, true, true, true, true, true, true, false, false, false, false, false, false] rfl rfl (any_of HT_.out (by kernel_rfl)) (fun _ _ _ h => h) (Or.inl ⟨by rfl, ?_⟩) ?_ ?_
     rotate_left
     ·intro w'
      go_simp
      with_reducible rfl
     rotate_left
     ·simp only [Act.put, List.setIfInBounds_toArray, List.set_cons_zero, List.set_cons_succ, i64_w, i32_w]
      rfl
     refine take_ (i := 7) (N := (some 58)) (v := ?_) (a' := ?_) #[true, true, true, true, true, true, true, true, false, false, false, false, false] rfl rfl (take_ofW HT_.out HW_.out (by kernel_rfl)) (fun _ _ _ h => h) (Or.inl ⟨by rfl, ?_⟩) hHeld ?_ ?_
     rotate_left
     ·rintro w' ⟨s0, s1⟩
      go_simp
      with_reducible rfl
     rotate_left
     ·simp only [Act.put, List.setIfInBounds_toArray, List.set_cons_zero, List.set_cons_succ, i64_w, i32_w]
      rfl
     refine one_ (i := 8) (N := (some 59)) #[true, true, true, true, true, true, true, true, true, false, false, false, false] rfl rfl (one_of HT_.out (by kernel_rfl)) (by decide) (fun K hK => ?_)
     refine value_ (w1 := w13.alloc (.cells #[.int .i64 p.id] 3)) (v := .slice (some ⟨w13.heap.size, 0, none⟩) 1 1) (by rfl) rfl ?_ ?_
     ·go_simp
     refine hK.out _ _ ⟨pw_cell_below (below_alloc (Below.refl _ _) _) h131, pw_cell_below (below_alloc (Below.refl _ _) _) h132⟩ (fun hHeld => ?_)
     clear hK K
     refine norm_ (a' := ?_) ?_ ?_
     rotate_left
     ·show Act.put _ (some 59) _ = _
      simp only [Act.put, List.setIfInBounds_toArray, List.set_cons_zero, List.set_cons_succ, i64_w, i32_w]
      rfl
     refine one_ (i := 9) (N := (some 60)) #[true, true, true, true, true, true, true, true, true, true, false, false, false] rfl rfl (one_of HT_.out (by kernel_rfl)) (by decide) (fun K hK => ?_)
     refine goes_ Try.func37 (by kernel_rfl) rfl #[.slice A ids.length c, .int .i64 (under ids p.id), .slice (some ⟨w13.heap.size, 0, none⟩) 1 1] (by rfl) rfl rfl (by (try simp only [List.map_toArray, List.map_cons, List.map_nil]); first | done | rfl) ?_
     refine (ins3_R w13 base (under ids p.id) (fun k => ok k ∧ k ≠ s ∧ k ≠ m) (.slice A ids.length c) ids p.id (H13.out.row h130 h131).2.2.2.2.2.2.2 (fun k hk => ⟨HOK.out k (Nat.le_trans HB13.out.size hk), (by have := H13.out.lt; omega), (by have := (H13.out.row h130 h131).2.2.2.2.2.2.1.lt; omega)⟩) (Nat.le_trans hb HB13.out.size) (under_le ids p.id) (by omega)).mono ?_
     rintro e w10 ⟨v1, rfl, hR1, hg1, _⟩
     obtain ⟨A1, n1, c1, hv⟩ : ∃ A n c, v1 = .slice A n c := by obtain ⟨A', c', h⟩ := Kd.R_slice hR1; exact ⟨_, _, _, h⟩
     subst hv
     refine ⟨_, rfl, ?_⟩
     obtain ⟨HS, HOO, HBK, hc1, hf1, hc0⟩ := St.inserted H13.out h130 h131 hR1 hg1
     have hk2 : w10.cell? ⟨w.heap.size, 0, none⟩ = some (.int .i64 p.id) := (blk_cell (blk_grown (blk_alloc HBX13.out _) hg1 (Kd.R_ne (H13.out.row h130 h131).2.2.2.2.2.2.2 HBX13.out (by decide))) 0).trans rfl
     refine hK.out _ _ ⟨hc1, hk2⟩ (fun hHeld => ?_)
     clear hK K hR1 hg1
     refine norm_ (a' := ?_) ?_ ?_
     rotate_left
     ·show Act.put _ (some 60) _ = _
      simp only [Act.put, List.setIfInBounds_toArray, List.set_cons_zero, List.set_cons_succ, i64_w, i32_w]
      rfl
     refine pure_ (i := 10) (N := (some 61)) (v := ?_) (a' := ?_) #[true, true, true, true, true, true, true, true, true, true, true, false, false] rfl rfl (any_of HT_.out (by kernel_rfl)) (fun _ _ _ h => h) (Or.inl ⟨by rfl, ?_⟩) ?_ ?_
     rotate_left
     ·intro w'
      go_simp
      with_reducible rfl
     rotate_left
     ·simp only [Act.put, List.setIfInBounds_toArray, List.set_cons_zero, List.set_cons_succ, i64_w, i32_w]
      rfl
     refine pure_ (i := 11) (N := (some 62)) (v := ?_) (a' := ?_) #[true, true, true, true, true, true, true, true, true, true, true, true, false] rfl rfl (any_of HT_.out (by kernel_rfl)) (fun _ _ _ h => h) (Or.inl ⟨by rfl, ?_⟩) ?_ ?_
     rotate_left
     ·intro w'
      go_simp
      with_reducible rfl
     rotate_left
     ·simp only [Act.put, List.setIfInBounds_toArray, List.set_cons_zero, List.set_cons_succ, i64_w, i32_w]
      rfl
     refine last_ (i := 12) (N := none) #[true, true, true, true, true, true, true, true, true, true, true, true, true] rfl rfl (one_of HT_.out (by kernel_rfl)) (by decide) (fun K hK => ?_)
     refine skip_ (w1 := w10.setCell ⟨s, 1, none⟩ (.slice A1 n1 c1)) (by rfl) rfl ?_ ?_
     ·go_simp
     refine hK.out _ _ ?_
     clear hK K
     refine done_ (done_of HT_.out (by kernel_rfl)) ?_
     clear HT_ HW_
     generalize w10.setCell ⟨s, 1, none⟩ (.slice A1 n1 c1) = w8 at HS HOO HBK hc0 ⊢
     have HI : Hd (insI ids p.id = ids.take (under ids p.id) ++ [p.id] ++ ids.drop (under ids p.id)) := hd (by unfold insI; rw [if_neg hin])
     have H8 : Hd (St w8 base ok s P (insI ids p.id)) := hd (by rw [HI.out]; exact HS)
     have HO8 : Hd (Off w w8 ok) := hd ((Off.of_below HB13.out).trans HOO fun _ _ h => h)
     have h80 := hc0
     have HBX8 := hd (HBK _ _ _ (by decide) (by omega) HBX13.out)
     have HKB8 := hd (HBK _ _ _ (by decide) (by omega) HKB13.out)
     have hm8 : MapIs w8 m (P.map ent) := by obtain ⟨m', A', c', e0, _, e2, _⟩ := H8.out.reads; have e := e0.symm.trans h80; cases e; exact e2
     clear HS HOO HBK hc0 HB13 HBX13 HKB13 H13 h130 h131 h132 hc1 hf1 hk2 hHeld
     go_wp2_with fail
     have H14 : Hd (St w8.drew base ok s P (insI ids p.id)) := hd (H8.out.drewN 1)
     have HO14 : Hd (Off w w8.drew ok) := hd (HO8.out.trans (Off.of_below (below_drew1 (Below.refl _ _))) fun _ _ h => h)
     have h140 : w8.drew.cell? ⟨s, 0, none⟩ = some (.map (some m)) := h80
     have hm14 : MapIs w8.drew m (P.map ent) := hm8
     refine start_ (n := 7) (S := fun w' => w'.cell? ⟨s, 0, none⟩ = some (.map (some m)) ∧ w'.cell? ⟨kb, 0, none⟩ = some (.int .i64 p.id) ∧ w'.cell? ⟨kb, 1, none⟩ = some (.int .u8 p.what) ∧ w'.cell? ⟨w.heap.size, 0, none⟩ = some (.int .i64 p.id) ∧ w'.cell? ⟨w.heap.size, 1, none⟩ = some (.int .u8 p.what) ∧ w'.cell? ⟨w.heap.size, 2, none⟩ = some (.int .i64 p.at_) ∧ w'.cell? ⟨w.heap.size, 3, none⟩ = some (.string p.acc) ∧ w'.cell? ⟨w.heap.size, 4, none⟩ = some (.string p.usr) ∧ w'.cell? ⟨w.heap.size, 5, none⟩ = some (.int .i64 p.nodes) ∧ w'.cell? ⟨w.heap.size, 6, none⟩ = some (.int .i64 p.cores) ∧ w'.cell? ⟨w.heap.size, 7, none⟩ = some (.int .u8 p.st)) (ds := [6]) #[false, false, false, false, false, false, false] (by kernel_rfl) rfl rfl ⟨h80, (blk_cell HKB8.out 0).trans rfl, (blk_cell HKB8.out 1).trans rfl, (blk_cell HBX8.out 0).trans rfl, (blk_cell HBX8.out 1).trans rfl, (blk_cell HBX8.out 2).trans rfl, (blk_cell HBX8.out 3).trans rfl, (blk_cell HBX8.out 4).trans rfl, (blk_cell HBX8.out 5).trans rfl, (blk_cell HBX8.out 6).trans rfl, (blk_cell HBX8.out 7).trans rfl⟩ (fun hHeld => ?_)
     refine with_tabW account_Take.tab14 account_Take.bits14 (fun HT_ HW_ => ?_)
     generalize w8.drew = w14 at H14 h140 hm14 HO14 hHeld ⊢
     refine pure_ (i := 0) (N := (some 63)) (v := ?_) (a' := ?_) #[true, false, false, false, false, false, false] rfl rfl (any_of HT_.out (by kernel_rfl)) (fun _ _ _ h => h) (Or.inl ⟨by rfl, ?_⟩) ?_ ?_
     rotate_left
     ·intro w'
      go_simp
      with_reducible rfl
     rotate_left
     ·simp only [Act.put, List.setIfInBounds_toArray, List.set_cons_zero, List.set_cons_succ, i64_w, i32_w]
      rfl
     refine pure_ (i := 1) (N := (some 64)) (v := ?_) (a' := ?_) #[true, true, false, false, false, false, false] rfl rfl (any_of HT_.out (by kernel_rfl)) (fun _ _ _ h => h) (Or.inl ⟨by rfl, ?_⟩) ?_ ?_
     rotate_left
     ·intro w'
      go_simp
      with_reducible rfl
     rotate_left
     ·simp only [Act.put, List.setIfInBounds_toArray, List.set_cons_zero, List.set_cons_succ, i64_w, i32_w]
      rfl
     refine pure_ (i := 2) (N := (some 65)) (v := ?_) (a' := ?_) #[true, true, true, false, false, false, false] rfl rfl (any_of HT_.out (by kernel_rfl)) (fun _ _ _ h => h) (Or.inl ⟨by rfl, ?_⟩) ?_ ?_
     rotate_left
     ·intro w'
      go_simp
      with_reducible rfl
     rotate_left
     ·simp only [Act.put, List.setIfInBounds_toArray, List.set_cons_zero, List.set_cons_succ, i64_w, i32_w]
      rfl
     refine take_ (i := 3) (N := (some 66)) (v := ?_) (a' := ?_) #[true, true, true, true, false, false, false] rfl rfl (take_ofW HT_.out HW_.out (by kernel_rfl)) (fun _ _ _ h => h) (Or.inl ⟨by rfl, ?_⟩) hHeld ?_ ?_
     rotate_left
     ·rintro w' ⟨s0, s1, s2, s3, s4, s5, s6, s7, s8, s9, s10⟩
      go_simp
      with_reducible rfl
     rotate_left
     ·simp only [Act.put, List.setIfInBounds_toArray, List.set_cons_zero, List.set_cons_succ, i64_w, i32_w]
      rfl
     refine take_ (i := 4) (N := (some 67)) (v := ?_) (a' := ?_) #[true, true, true, true, true, false, false] rfl rfl (take_ofW HT_.out HW_.out (by kernel_rfl)) (fun _ _ _ h => h) (Or.inl ⟨by rfl, ?_⟩) hHeld ?_ ?_
     rotate_left
     ·rintro w' ⟨s0, s1, s2, s3, s4, s5, s6, s7, s8, s9, s10⟩
      go_simp
      with_reducible rfl
     rotate_left
     ·simp only [Act.put, List.setIfInBounds_toArray, List.set_cons_zero, List.set_cons_succ, i64_w, i32_w]
      rfl
     refine take_ (i := 5) (N := (some 68)) (v := ?_) (a' := ?_) #[true, true, true, true, true, true, false] rfl rfl (take_ofW HT_.out HW_.out (by kernel_rfl)) (fun _ _ _ h => h) (Or.inl ⟨by rfl, ?_⟩) hHeld ?_ ?_
     rotate_left
     ·rintro w' ⟨s0, s1, s2, s3, s4, s5, s6, s7, s8, s9, s10⟩
      go_simp
      with_reducible rfl
     rotate_left
     ·simp only [Act.put, List.setIfInBounds_toArray, List.set_cons_zero, List.set_cons_succ, i64_w, i32_w]
      rfl
     refine last_ (i := 6) (N := none) #[true, true, true, true, true, true, true] rfl rfl (one_of HT_.out (by kernel_rfl)) (by decide) (fun K hK => ?_)
     obtain ⟨w9, hrun, hm9, hg9⟩ := put_run hm14 p.id p.what HNO.out (pastV p)
     simp only [keyV, pastV, pastCs] at hrun
     refine skip_ (w1 := w9) (by rfl) rfl ?_ ?_
     ·go_simp
     refine hK.out _ _ ?_
     clear hK K hrun
     have HF := hd (St.put H14.out h140 hm9 hg9)
     have HFO : Hd (Off w w9 ok) := hd (HO14.out.trans HF.out.2 fun _ _ h => h)
     clear hm9 hg9
     refine done_ (done_of HT_.out (by kernel_rfl)) ?_
     clear HT_ HW_
     go_wp2
     go_ret2
     rw [HE.out]
     exact ⟨rfl, HF.out.1, HFO.out⟩

end Go.Proofs.Ytinpgejkkfpckaa.Pr
