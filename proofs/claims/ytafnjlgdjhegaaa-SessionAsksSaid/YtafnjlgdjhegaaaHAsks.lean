-- MINIFIED by wip/tools/minify.py
/-
 Texts of this session, laid together by wip/tools/merge.py: HDel70, HTake, QAsk, QAsk2, HAsks.
-/
import Derived.Test.YtafnjlgdjhegaaaPr0
import Derived.Test.YtafnjlgdjhegaaaG
import Derived.Test.YtafnjlgdjhegaaaHAsker
import Derived.Test.YtafnjlgdjhegaaaPr21
import Derived.Deep.CutBlock
import Derived.Deep.DeepCutAuto
import Derived.Test.YtafnjlgdjhegaaaPr25
import Derived.Test.YtafnjlgdjhegaaaPr26
import Derived.Test.YtafnjlgdjhegaaaPr27
import Derived.Test.YtafnjlgdjhegaaaHAwake
import Derived.Test.YtafnjlgdjhegaaaHLent
section
namespace Go.Proofs.Ytafnjlgdjhegaaa.Pr
open Go.RowKit Go.Proofs.YtafnjlgdjhegaaaW.PrintWords Go.Proofs.YtafnjlgdjhegaaaW.PrintLast Go.Proofs.YtafnjlgdjhegaaaW.PrintMore Go.Proofs.YtafnjlgdjhegaaaG
set_option linter.unusedVariables false
set_option linter.unusedSimpArgs false
theorem R_cleared {α : Type} {d : Kd α} {e base g m c off : Nat} {w w' : World} {ok : Nat → Prop} {xs : List α} {cur zs : List Value} (h : d.R e w base ok (.slice (some ⟨g, 0, none⟩) m c) xs) (hg : w.heap[g]? = some (.cells cur.toArray e (0, 0)))
  (hg' : w'.heap[g]? = some (.cells (splice cur off zs).toArray e (0, 0))) (hoff : m * d.sz ≤ off) (hfit : off + zs.length ≤ cur.length) (hgr : w.grownBy w' (some g)) : d.R e w' base ok (.slice (some ⟨g, 0, none⟩) m c) xs := by
 have hm : m = xs.length := (Kd.R_reads' h).1
 obtain ⟨h0, inner, ho, hr⟩ := h
 refine ⟨h0, inner, ?_, hr.1, fun j p hp => Kd.M_grown (hr.2 j p hp) hgr (fun k hk e => hk.2 (by simpa [Value.ownBlock] using e))⟩
 rcases ho.2 with ⟨hv, _⟩ | ⟨g', cap', cur', hv, hb, hh, h1, h2, h3, h4⟩
 ·cases hv
 ·simp only [Value.slice.injEq, Option.some.injEq, Addr.mk.injEq, and_true, true_and] at hv
  obtain ⟨rfl, hmm, rfl⟩ := hv
  rw [hg] at hh
  simp only [Option.some.injEq, Obj.cells.injEq, and_true] at hh
  subst hh
  refine ⟨ho.1, .inr ⟨g, c, (splice cur off zs).toArray, by rw [hmm], hb, hg', h1, h2, ?_, ?_⟩⟩
  ·rw [← h3]
   simp [length_splice _ _ _ hfit]
  ·rw [← h4]
   simp only
   unfold splice
   rw [List.take_append_of_le_length (by rw [List.length_take]; rw [← hm]; omega), List.take_take]
   congr 1
   rw [← hm]
   omega
theorem R_block {α : Type} {d : Kd α} {e base g m c : Nat} {w : World} {ok : Nat → Prop} {xs : List α} (h : d.R e w base ok (.slice (some ⟨g, 0, none⟩) m c) xs) : ∃ cur : List Value, w.heap[g]? = some (.cells cur.toArray e (0, 0)) ∧ cur.length = c * d.sz ∧ base ≤ g ∧ c ≤ maxLen := by
 obtain ⟨h0, inner, ho, hr⟩ := h
 rcases ho.2 with ⟨hv, _⟩ | ⟨g', cap', cur', hv, hb, hh, h1, h2, h3, h4⟩
 ·cases hv
 ·simp only [Value.slice.injEq, Option.some.injEq, Addr.mk.injEq, and_true, true_and] at hv
  obtain ⟨rfl, hmm, rfl⟩ := hv
  exact ⟨cur'.toList, by simpa using hh, by simpa using h3, hb, h2⟩
theorem size70 : (Try.prog.info? 70).map (·.size) = some 2 := by kernel_rfl
theorem holdD {p} (h : Hd p) : p := h.out
def del70.T5 : Bool × List (List Nat × List Nat) := (true, [([], []), ([], []), ([0, 1], [0, 1]), ([], []), ([], []), ([3, 4], [3, 4]), ([2, 5], [2, 5]), ([6, 6, 0, 1, 2, 3, 4, 5, 6], [0, 3, 6])])
def del70.B5 : List Nat := [0, 0, 3, 0, 0, 24, 63, 127]
theorem del70.tab5 : rtab .any (opsOf Try.f54 5) = del70.T5 := by kernel_rfl
theorem del70.bits5 : waitsOk del70.T5.2 del70.B5 = true := by kernel_rfl
set_option maxRecDepth 100000 in
set_option maxHeartbeats 400000 in
theorem del70_any (base g c n i : Nat) (ok : Nat → Prop) (xs : List S70) (w : World) (h : Kd.R k70 70 w base ok (.slice (some ⟨g, 0, none⟩) n c) xs) (hi : i < n) (hb : base ≤ w.heap.size) (hn : n ≤ 4398046511104) :
  Calls Try.prog 54 #[.slice (some ⟨g, 0, none⟩) n c, .int .i64 (i : Int), .int .i64 ((i + 1 : Nat) : Int)] w fun e w' => e = .returned (.slice (some ⟨g, 0, none⟩) (n - 1) c) ∧ Kd.R k70 70 w' base ok (.slice (some ⟨g, 0, none⟩) (n - 1) c) (xs.eraseIdx i) ∧ w.grownBy w' (some g) := by
 have H := hd h
 have hnc : n ≤ c := (Kd.R_reads' h).2.1
 have hc : c ≤ 9223372036854775807 := by obtain ⟨_, _, _, _, hc⟩ := R_block h; simpa [maxLen] using hc
 clear h
 have hne : ((i : Int) == (i : Int) + 1) = false := beq_eq_false_iff_ne.2 (by omega)
 go_enter Try.func54, Try.ntmps54
 go_wp2_with fail
 obtain ⟨i70, hi70, hz70⟩ := Option.map_eq_some_iff.1 size70
 have hca := cut_to (P := Try.prog) 48 70 .i64 Try.underlying48 hi70 (some ⟨g, 0, none⟩) n c (i : Int) (by omega) (by omega) hnc
 have hcb1 : (0 : Int) ≤ (i : Int) + 1 := by omega
 have hcb2 : (i : Int) + 1 ≤ (n : Int) := by omega
 rw [Int.toNat_natCast] at hca
 clear hi70 hz70
 have HW : Hd (Kd.R k70 70 w.drew base ok (.slice (some ⟨g, 0, none⟩) n c) xs) := hd (Kd.R_drewN H.out 1)
 have hbw : base ≤ w.drew.heap.size := hb
 refine start_ (n := 8) (S := fun w' => True) (ds := []) #[false, false, false, false, false, false, false, false] (by kernel_rfl) rfl rfl trivial (fun hHeld => ?_)
 refine with_tabW del70.tab5 del70.bits5 (fun HT_ HW_ => ?_)
 refine pure_ (i := 0) (N := (some 20)) (v := ?_) (a' := ?_) #[true, false, false, false, false, false, false, false] rfl rfl (any_of HT_.out (by kernel_rfl)) (fun _ _ _ h => h) (Or.inl ⟨by rfl, ?_⟩) ?_ ?_
 rotate_left
 ·intro w'
  go_simp
  with_reducible rfl
 rotate_left
 ·simp only [Act.put, List.setIfInBounds_toArray, List.set_cons_zero, List.set_cons_succ, i64_w, i32_w]
  rfl
 refine pure_ (i := 1) (N := (some 21)) (v := ?_) (a' := ?_) #[true, true, false, false, false, false, false, false] rfl rfl (any_of HT_.out (by kernel_rfl)) (fun _ _ _ h => h) (Or.inl ⟨by rfl, ?_⟩) ?_ ?_
 rotate_left
 ·intro w'
  go_simp
  with_reducible rfl
 rotate_left
 ·simp only [Act.put, List.setIfInBounds_toArray, List.set_cons_zero, List.set_cons_succ, i64_w, i32_w]
  rfl
 refine pure_ (i := 2) (N := (some 22)) (v := ?_) (a' := ?_) #[true, true, true, false, false, false, false, false] rfl rfl (any_of HT_.out (by kernel_rfl)) (fun _ _ _ h => h) (Or.inl ⟨by rfl, ?_⟩) ?_ ?_
 rotate_left
 ·intro w'
  go_simp
  with_reducible rfl
 rotate_left
 ·simp only [Act.put, List.setIfInBounds_toArray, List.set_cons_zero, List.set_cons_succ, i64_w, i32_w]
  rfl
 refine pure_ (i := 3) (N := (some 23)) (v := ?_) (a' := ?_) #[true, true, true, true, false, false, false, false] rfl rfl (any_of HT_.out (by kernel_rfl)) (fun _ _ _ h => h) (Or.inl ⟨by rfl, ?_⟩) ?_ ?_
 rotate_left
 ·intro w'
  go_simp
  with_reducible rfl
 rotate_left
 ·simp only [Act.put, List.setIfInBounds_toArray, List.set_cons_zero, List.set_cons_succ, i64_w, i32_w]
  rfl
 refine pure_ (i := 4) (N := (some 24)) (v := ?_) (a' := ?_) #[true, true, true, true, true, false, false, false] rfl rfl (any_of HT_.out (by kernel_rfl)) (fun _ _ _ h => h) (Or.inl ⟨by rfl, ?_⟩) ?_ ?_
 rotate_left
 ·intro w'
  go_simp
  with_reducible rfl
 rotate_left
 ·simp only [Act.put, List.setIfInBounds_toArray, List.set_cons_zero, List.set_cons_succ, i64_w, i32_w]
  rfl
 refine pure_ (i := 5) (N := (some 25)) (v := ?_) (a' := ?_) #[true, true, true, true, true, true, false, false] rfl rfl (any_of HT_.out (by kernel_rfl)) (fun _ _ _ h => h) (Or.inl ⟨by rfl, ?_⟩) ?_ ?_
 rotate_left
 ·intro w'
  go_simp
  with_reducible rfl
 rotate_left
 ·simp only [Act.put, List.setIfInBounds_toArray, List.set_cons_zero, List.set_cons_succ, i64_w, i32_w]
  rfl
 refine one_ (i := 6) (N := (some 26)) #[true, true, true, true, true, true, true, false] rfl rfl (one_of HT_.out (by kernel_rfl)) (by decide) (fun K hK => ?_)
 refine Kd.R_delete_step k70 (w0 := w.drew) base (by rfl) (.tmp 22) (.tmp 25) 48 70 rfl Try.underlying48 size70 (k := i) (n := n) (c := c) (m := n - (i + 1)) (c2 := c - (i + 1)) (A := if c = i + 1 then some ⟨g, 0, none⟩ else some ⟨g, (i + 1) * 2, none⟩) (by rfl) (by rfl) (by show _ = if c = i + 1 then some (⟨g, 0, none⟩ : Addr) else some (Addr.add ⟨g, 0, none⟩ ((i + 1) * 2)); simp [Addr.add]) rfl HW.out hi (Below.refl base w.drew) hbw ?_
 intro w1 hR hBl hG
 refine hK.out _ _ trivial (fun hHeld => ?_)
 clear hK K
 have HR1 := hd hR
 have HG1 : Hd (w.grownBy w1 (some g)) := hd ⟨hG.os, hG.tape, hG.output, hG.size, hG.block⟩
 clear hR hBl hG HW hca hcb1 hcb2
 refine norm_ (a' := ?_) ?_ ?_
 rotate_left
 ·show Act.put _ (some 26) _ = _
  simp only [Act.put, List.setIfInBounds_toArray, List.set_cons_zero, List.set_cons_succ, i64_w, i32_w]
  rfl
 refine pure_ (i := 7) (N := (some 0)) (v := ?_) (a' := ?_) #[true, true, true, true, true, true, true, true] rfl rfl (any_of HT_.out (by kernel_rfl)) (fun _ _ _ h => h) (Or.inl ⟨by rfl, ?_⟩) ?_ ?_
 rotate_left
 ·intro w'
  go_simp
  with_reducible rfl
 rotate_left
 ·simp only [Act.put, List.setIfInBounds_toArray, List.set_cons_zero, List.set_cons_succ, i64_w, i32_w]
  rfl
 refine done_ (done_of HT_.out (by kernel_rfl)) ?_
 clear HT_ HW_
 generalize (if c = i + 1 then some (⟨g, 0, none⟩ : Addr) else some ⟨g, (i + 1) * 2, none⟩) = A9
 obtain ⟨cur, hcur, hcl0, _, _⟩ := R_block HR1.out
 have hcl : cur.length = c * 2 := hcl0
 clear hcl0
 have HC := hd hcur
 have hcn : ¬ c = n - 1 := by omega
 have HFI : Hd ((n - 1) * 2 + (n - (n - 1)) * 2 ≤ cur.length) := hd (by rw [hcl]; omega)
 have HCL := hd hcl
 clear hcur hcl
 have hn1 : n - 1 + 1 = n := by omega
 have hcs1 : (0 : Int) ≤ ((n - 1 : Nat) : Int) := by omega
 have hcs2 : ((n - 1 : Nat) : Int) ≤ (n : Int) := by omega
 have hcs3 : (n : Int) ≤ (c : Int) := by omega
 go_wp2_with (refine wpList_clear_k rfl _ 48 rfl 70 (.agg #[.int .i64 0, .slice none 0 0]) 2 Try.underlying48 (fun W => by kernel_rfl) rfl (by decide) g ((n - 1) * 2) (n - (n - 1)) (c - (n - 1)) rfl cur 70 HC.out HFI.out ?_; intro w3 zs Z1 Z2 Z3)
 go_wp2
 go_ret
 refine ⟨rfl, R_cleared HR1.out HC.out Z1.out (Nat.le_refl _) (by rw [Z2.out]; exact HFI.out) Z3.out, grownBy_trans HG1.out Z3.out⟩
end Go.Proofs.Ytafnjlgdjhegaaa.Pr
end
section
namespace Go.Proofs.Ytafnjlgdjhegaaa.Pr
open Go.RowKit Go.Proofs.YtafnjlgdjhegaaaW.PrintWords Go.Proofs.YtafnjlgdjhegaaaW.PrintLast Go.Proofs.YtafnjlgdjhegaaaW.PrintMore Go.Proofs.YtafnjlgdjhegaaaG
set_option linter.unusedVariables false
set_option linter.unusedSimpArgs false
/-- The waits without a request's. -/
def takeL (l : List S70) (rq : Int) : List S70 := l.filter fun x => !decide (x.f0 = rq)
def hasL (l : List S70) (rq : Int) : Bool := l.any fun x => decide (x.f0 = rq)
/-- What Take tells. -/
def takeS (id nx ak : Int) (l : List S70) (rq : Int) : Int × Int × Int × List S70 × Bool × Int :=
 if askerB id nx ak l = true then (id, nx, ackP nx (takeL l rq), takeL l rq, hasL l rq, 0) else (0, 0, 0, [], false, 2)
theorem rises_get : ∀ (T : List Int) (a : Int), rises a T = true → (∀ j, j < T.length → a < T.getD j 0) ∧ ∀ i j, i < j → j < T.length → T.getD i 0 < T.getD j 0
 | [], a, _ => ⟨fun j h => by simp at h, fun i j _ h => by simp at h⟩
 | x :: T, a, h => by
  have hh : a < x ∧ rises x T = true := by
   simp only [rises, Bool.and_eq_true, Bool.not_eq_true', decide_eq_false_iff_not] at h
   exact ⟨by omega, h.2⟩
  obtain ⟨i1, i2⟩ := rises_get T x hh.2
  refine ⟨fun j hj => ?_, fun i j hij hj => ?_⟩
  ·cases j with
   | zero => simpa using hh.1
   | succ j =>
    have := i1 j (by simpa using hj)
    simp only [List.getD_cons_succ]
    omega
  ·cases j with
   | zero => omega
   | succ j =>
    cases i with
    | zero =>
     have := i1 j (by simpa using hj)
     simpa using this
    | succ i =>
     have := i2 i j (by omega) (by simpa using hj)
     simpa using this
theorem map_getD (l : List S70) (j : Nat) (h : j < l.length) : (l.map S70.f0).getD j 0 = (l[j]).f0 := by simp [List.getD_eq_getElem?_getD, h]
/-- What was found, told by the elements alone. -/
theorem found_has {l : List S70} {rq : Int} {i : Nat} {b : Bool} (hr : rises 0 (l.map S70.f0) = true) (hf : Found (l.map S70.f0) rq i b) : b = hasL l rq ∧ (b = true → i < l.length ∧ l.eraseIdx i = takeL l rq) ∧ (b = false → l = takeL l rq) := by
 obtain ⟨hr1, hr2⟩ := rises_get _ _ hr
 rw [List.length_map] at hr1 hr2
 obtain ⟨f1, f2, f3⟩ := hf
 rw [List.length_map] at f1 f2 f3
 have hhas : hasL l rq = true ↔ ∃ j, ∃ h : j < l.length, (l[j]).f0 = rq := by
  unfold hasL
  rw [List.any_eq_true]
  constructor
  ·rintro ⟨x, hx, he⟩
   obtain ⟨j, hj, rfl⟩ := List.mem_iff_getElem.1 hx
   exact ⟨j, hj, by simpa using he⟩
  ·rintro ⟨j, hj, he⟩
   exact ⟨l[j], List.getElem_mem hj, by simpa using he⟩
 have hb : b = true ↔ hasL l rq = true := by
  rw [f2, hhas]
  constructor
  ·rintro ⟨h1, h2⟩
   rw [map_getD l i h1] at h2
   exact ⟨i, h1, h2⟩
  ·rintro ⟨j, hj, he⟩
   have hp := hr1 j hj
   rw [map_getD l j hj] at hp
   obtain ⟨g1, g2⟩ := f3 hr (by omega)
   have hij : i ≤ j := by
    rcases Nat.lt_or_ge j i with h | h
    ·have := g1 j h
     rw [map_getD l j hj] at this
     omega
    ·exact h
   have hi : i < l.length := by omega
   have h1 := g2 i (Nat.le_refl _) hi
   rcases Nat.lt_or_ge i j with h | h
   ·have h2 := hr2 i j h hj
    rw [map_getD l j hj] at h2
    omega
   ·have e : i = j := by omega
    subst e
    exact ⟨hj, by rw [map_getD l i hj]; exact he⟩
 refine ⟨?_, fun ht => ?_, fun hff => ?_⟩
 ·cases b <;> cases h : hasL l rq <;> simp_all
 ·obtain ⟨h1, h2⟩ := f2.1 ht
  refine ⟨h1, ?_⟩
  rw [map_getD l i h1] at h2
  have e : l = l.take i ++ l[i] :: l.drop (i + 1) := by rw [← List.drop_eq_getElem_cons h1, List.take_append_drop]
  have k1 : ∀ x ∈ l.take i, ¬ x.f0 = rq := by
   intro x hx he
   obtain ⟨j, hj, rfl⟩ := List.mem_iff_getElem.1 hx
   rw [List.length_take] at hj
   rw [List.getElem_take] at he
   have := hr2 j i (by omega) h1
   rw [map_getD l i h1, map_getD l j (by omega)] at this
   omega
  have k2 : ∀ x ∈ l.drop (i + 1), ¬ x.f0 = rq := by
   intro x hx he
   obtain ⟨j, hj, rfl⟩ := List.mem_iff_getElem.1 hx
   rw [List.length_drop] at hj
   rw [List.getElem_drop] at he
   have := hr2 i (i + 1 + j) (by omega) (by omega)
   rw [map_getD l i h1, map_getD l (i + 1 + j) (by omega)] at this
   omega
  unfold takeL
  conv => rhs; rw [e]
  rw [List.filter_append, List.filter_cons, if_neg (by simp [h2]), List.filter_eq_self.2 (fun x hx => by simp [k1 x hx]), List.filter_eq_self.2 (fun x hx => by simp [k2 x hx]), List.eraseIdx_eq_take_drop_succ]
 ·unfold takeL
  symm
  refine List.filter_eq_self.2 fun x hx => ?_
  have hn : ¬ hasL l rq = true := fun h => by rw [hff] at hb; exact absurd (hb.2 h) (by simp)
  rw [hhas] at hn
  obtain ⟨j, hj, rfl⟩ := List.mem_iff_getElem.1 hx
  have : ¬ (l[j]).f0 = rq := fun he => hn ⟨j, hj, he⟩
  simp [this]
theorem acked_mem (id nx ak : Int) (l : List S70) (h1 : 1 ≤ nx) (h2 : nx ≤ 4611686018427387904) (hm : ∀ x ∈ l, 0 < x.f0 ∧ x.f0 ≤ 4611686018427387904) : session_acked.f id nx ak l = some (ackP nx l) := by
 cases l with
 | nil =>
  simp only [session_acked.f, ackP, List.length_nil]
  rw [if_neg (by simp)]
  congr 1
  unfold wrap64
  omega
 | cons x l =>
  have hx := hm x (by simp)
  simp only [session_acked.f, ackP, List.length_cons]
  rw [if_pos (by omega), if_pos (by omega)]
  congr 1
  have e : (rd_T70 (x :: l) 0).f0 = x.f0 := rfl
  rw [e]
  unfold wrap64
  omega
theorem asker_parts {id nx ak : Int} {l : List S70} (h : askerB id nx ak l = true) : (1 ≤ nx ∧ nx ≤ 4611686018427387904) ∧ rises 0 (l.map S70.f0) = true := by
 unfold askerB at h
 simp only [Bool.and_eq_true, decide_eq_true_eq] at h
 exact ⟨⟨h.1.1.1.1.1.2, h.1.1.1.1.2⟩, h.1.1.1.2⟩
theorem take_acked {id nx ak : Int} {l : List S70} (h : askerB id nx ak l = true) (rq : Int) : session_acked.f id nx ak (takeL l rq) = some (ackP nx (takeL l rq)) := by
 obtain ⟨⟨h1, h2⟩, h3⟩ := asker_parts h
 refine acked_mem _ _ _ _ h1 h2 fun x hx => ?_
 have hx' : x ∈ l := (List.mem_filter.1 hx).1
 have := rises_mem h3 x.f0 (List.mem_map.2 ⟨x, hx', rfl⟩)
 exact this
theorem holdT {p} (h : Hd p) : p := h.out
set_option maxRecDepth 100000 in
set_option maxHeartbeats 2000000 in
theorem take_any (id nx ak rq : Int) (A : Option Addr) (c : Nat) (l : List S70) (k : Nat) (w : World) (hr : Kd.C k70 w A l.length l) (hc : l.length ≤ c) (hak : i64 ak) (hrq : i64 rq) (hl : l.length < 4398046511104) (hw : session_waits.f k l = some l) :
  Calls Try.prog 23 #[.agg #[.int .i64 id, .int .i64 nx, .int .i64 ak, .slice A l.length c], .int .i64 rq] w fun e w' => ∃ A' c', e = .returned (.tuple #[.agg #[.int .i64 (takeS id nx ak l rq).1, .int .i64 (takeS id nx ak l rq).2.1, .int .i64 (takeS id nx ak l rq).2.2.1, .slice A' (takeS id nx ak l rq).2.2.2.1.length c'], .bool (takeS id nx ak l rq).2.2.2.2.1, .int .i64 (takeS id nx ak l rq).2.2.2.2.2]) ∧
   (takeS id nx ak l rq).2.2.2.1.length ≤ c' ∧ Kd.C k70 w' A' (takeS id nx ak l rq).2.2.2.1.length (takeS id nx ak l rq).2.2.2.1 ∧ Below w.heap.size w w' := by
 have hu50 := Try.underlying50
 have HC0 := hd hr
 have HCC := hd hc
 have HWT := hd hw
 clear hr hc hw
 go_enter Try.func23, Try.ntmps23
 go_wp2_with (first | ((with_reducible refine gate_dst (N := 2) rfl ?_); refine box_event ?hg (N := 2) ?hd (cs := #[.int .i64 id, .int .i64 nx, .int .i64 ak, .slice A l.length c]) (t := 50) ?hr ?_; (case hd => rfl); (case hg => rfl); (case hr => first | (go_simp; done) | (go_simp; rfl)); intro g2 hg w1 hbox hb; have HG2 : Hd (w.heap.size ≤ g2) := hd (by omega); have HX2 := hd hbox; have HB := hd hb; clear hg hbox hb) | ((with_reducible refine gate_dst (N := 4) rfl ?_); refine box_event ?hg (N := 4) ?hd (cs := #[.int .i64 0, .int .i64 0, .int .i64 0, .slice none 0 0]) (t := 50) ?hr ?_; (case hd => rfl); (case hg => rfl); (case hr => first | (go_simp; done) | (go_simp; rfl)); intro g4 hg w2 hbox hb; have HG4 : Hd (w.heap.size ≤ g4 ∧ g2 < g4) := hd ⟨by have := HB.out.size; omega, by have := blk_lt HX2.out; omega⟩; have HX4 := hd hbox; replace HX2 := hd (blk_below HX2.out hb); replace HB : Hd (Below w.heap.size w w2) := hd (below_then HB.out HB.out.size hb); clear hg hbox hb; refine holdT ?_))
 refine ⟨?_⟩
 have HNE : Hd (g4 ≠ g2) := hd (by have := HG4.out.2; omega)
 have c0 := (blk_cell HX2.out 0).trans rfl
 have c1 := (blk_cell HX2.out 1).trans rfl
 have c2 := (blk_cell HX2.out 2).trans rfl
 have c3 := (blk_cell HX2.out 3).trans rfl
 go_wp2_with fail
 refine (asker_any id nx ak A c l w2 (Kd.C_below HC0.out HB.out) HCC.out hak).mono ?_
 rintro e w3 ⟨rfl, b⟩
 replace HX2 := hd (blk_below HX2.out b)
 replace HX4 := hd (blk_below HX4.out b)
 replace HB : Hd (Below w.heap.size w w3) := hd (below_then HB.out HB.out.size b)
 clear b c0 c1 c2 c3
 obtain ⟨rb, hrb⟩ : ∃ b, askerB id nx ak l = b := ⟨_, rfl⟩
 rw [hrb]
 have HRB := hd hrb
 clear hrb
 cases rb with
 | false =>
  have HE : Hd (takeS id nx ak l rq = (0, 0, 0, [], false, 2)) := hd (by unfold takeS; rw [HRB.out]; rfl)
  go_wp2_with ((with_reducible refine gate_store (t := 50) (p := 4) rfl ?_); refine wpList_store_row rfl 50 (.tmp 4) (.tmp 12) rfl g4 #[.int .i64 0, .int .i64 0, .int .i64 0, .slice none 0 0] rfl rfl 50 _ HX4.out (by kernel_rfl) rfl (by simp [Value.oneCell']) ?_)
  refine bodyPost_ret (results_ctt rfl _ _ g4 50 #[.int .i64 0, .int .i64 0, .int .i64 0, .slice none 0 0] (0, 0) _ rfl (setRow_heap _ _ _ _ _ _ HX4.out) Try.underlying50 rfl (by kernel_rfl)) rfl ?_
  exact ⟨none, 0, by rw [HE.out]; rfl, by rw [HE.out]; exact Nat.le_refl _, by rw [HE.out]; exact ⟨rfl, by simp, fun h => absurd h (by simp)⟩, below_setRow HB.out HG4.out.1 _⟩
 | true =>
  have HE : Hd (takeS id nx ak l rq = (id, nx, ackP nx (takeL l rq), takeL l rq, hasL l rq, 0)) := hd (by unfold takeS; rw [if_pos HRB.out])
  have HACK := hd (take_acked HRB.out rq)
  have HRI := hd (asker_parts HRB.out).2
  have HZ3 : Hd (g4 < w3.heap.size) := hd (blk_lt HX4.out)
  have c3 := (blk_cell HX2.out 3).trans rfl
  have hfz := blk_frozen HX2.out 3
  go_wp2_with fail
  refine (session_waits.calls k A c l l w3 (Kd.C_below HC0.out HB.out) HCC.out HWT.out).mono ?_
  rintro e w4 ⟨v4, rfl, hS, b⟩
  have HR4 := hd (Kd.R_mono (Kd.R_bound (Kd.S_R hS)) (ok' := fun k_ => w3.heap.size ≤ k_) fun k_ hk => hk.2.1)
  replace HX2 := hd (blk_below HX2.out b)
  replace HX4 := hd (blk_below HX4.out b)
  replace HB : Hd (Below w.heap.size w w4) := hd (below_then HB.out HB.out.size b)
  have HLT : Hd (∀ k_, w3.heap.size ≤ k_ → g4 < k_ ∧ g2 < k_) := hd fun k_ hk => by have h1 := HZ3.out; have h2 := HG4.out.2; omega
  have HZ4 : Hd (w3.heap.size ≤ w4.heap.size) := hd b.size
  obtain ⟨A4, c4, rfl⟩ := Kd.R_slice HR4.out
  clear b hS c3 hfz
  have c3 := (blk_cell HX2.out 3).trans rfl
  have hfz := blk_frozen HX2.out 3
  go_upto_region 4 with (fail)
  replace HX2 := hd (blk_put HX2.out 3 (.slice A4 l.length c4) rfl)
  replace HX4 := hd (blk_far (p := ⟨g2, 3, none⟩) HX4.out HNE.out (.slice A4 l.length c4))
  replace HB : Hd (Below w.heap.size w (w4.setCell ⟨g2, 3, none⟩ (.slice A4 l.length c4))) := hd (below_set HB.out HG2.out)
  replace HR4 := hd (Kd.R_far (p := ⟨g2, 3, none⟩) HR4.out (fun k_ hk => Nat.ne_of_gt (HLT.out k_ hk).2) (.slice A4 l.length c4))
  have HZ5 : Hd (w3.heap.size ≤ (w4.setCell ⟨g2, 3, none⟩ (.slice A4 l.length c4)).heap.size) := hd (by have := HZ4.out; simpa [World.setCell] using this)
  clear c3 hfz
  generalize w4.setCell ⟨g2, 3, none⟩ (.slice A4 l.length c4) = w5 at HX2 HX4 HB HR4 HZ5 ⊢
  have c3 := (blk_cell HX2.out 3).trans rfl
  go_wp2_with fail
  obtain ⟨hrn, hrc, hrC⟩ := Kd.R_reads' HR4.out
  refine (place70_any A4 c4 l rq w5 hrC (fun x hx => by have := rises_mem HRI.out x hx; exact ⟨by omega, by omega⟩) hrq).mono ?_
  rintro e w6 ⟨i, b, rfl, hf, hb⟩
  replace HX2 := hd (blk_below HX2.out hb)
  replace HX4 := hd (blk_below HX4.out hb)
  replace HB : Hd (Below w.heap.size w w6) := hd (below_then HB.out HB.out.size hb)
  replace HR4 := hd (Kd.R_below HR4.out hb)
  have HZ6 : Hd (w3.heap.size ≤ w6.heap.size) := hd (by have := hb.size; have := HZ5.out; omega)
  obtain ⟨p1, p2, p3⟩ := found_has HRI.out hf
  rw [← p1] at HE
  clear hb c3 hrC hf p1
  cases b with
  | true =>
   obtain ⟨hi, he⟩ := p2 rfl
   clear p2 p3
   have HEI := hd he
   clear he
   obtain ⟨ad, rfl, _⟩ := (Kd.R_reads' HR4.out).2.2.2.2 (by omega)
   obtain ⟨g, rfl⟩ := Kd.R_head HR4.out
   have HGB : Hd (w3.heap.size ≤ g) := hd (HR4.out.1 g rfl)
   have c3 := (blk_cell HX2.out 3).trans rfl
   have hw1 : wrap64 ((i : Int) + 1) = ((i + 1 : Nat) : Int) := by unfold wrap64; omega
   go_wp2_with fail
   clear hw1
   refine (del70_any w3.heap.size g c4 l.length i (fun k_ => w3.heap.size ≤ k_) l w6 HR4.out hi HZ6.out (by omega)).mono ?_
   rintro e w7 ⟨rfl, hR, hg⟩
   rw [HEI.out] at hR
   have HR7 := hd hR
   replace HX2 := hd ((hg.block g2 (blk_lt HX2.out) (fun e => by have := (HLT.out g HGB.out).2; injection e with e; omega)).trans HX2.out)
   replace HX4 := hd ((hg.block g4 (blk_lt HX4.out) (fun e => by have := (HLT.out g HGB.out).1; injection e with e; omega)).trans HX4.out)
   replace HB : Hd (Below w.heap.size w w7) := hd (HB.out.grown hg HB.out.size (fun k_ hk => by injection hk with hk; subst hk; have := (HLT.out g HGB.out).2; have := HG2.out; omega))
   clear hR hg c3 HR4
   have c3 := (blk_cell HX2.out 3).trans rfl
   have hfz := blk_frozen HX2.out 3
   go_upto_region 7 with (fail)
   have HX2' := hd (blk_put HX2.out 3 (.slice (some ⟨g, 0, none⟩) (l.length - 1) c4) rfl)
   have HX4' := hd (blk_far (p := ⟨g2, 3, none⟩) HX4.out HNE.out (.slice (some ⟨g, 0, none⟩) (l.length - 1) c4))
   have HB' : Hd (Below w.heap.size w (w7.setCell ⟨g2, 3, none⟩ (.slice (some ⟨g, 0, none⟩) (l.length - 1) c4))) := hd (below_set HB.out HG2.out)
   have HR' := hd (Kd.R_far (p := ⟨g2, 3, none⟩) HR7.out (fun k_ hk => Nat.ne_of_gt (HLT.out k_ hk).2) (.slice (some ⟨g, 0, none⟩) (l.length - 1) c4))
   clear HX2 HX4 HB HR7 c3 hfz
   have HX2 := HX2'
   have HX4 := HX4'
   have HB := HB'
   have HR := HR'
   clear HX2' HX4' HB' HR'
   generalize w7.setCell ⟨g2, 3, none⟩ (.slice (some ⟨g, 0, none⟩) (l.length - 1) c4) = w8 at HX2 HX4 HB HR ⊢
   have hrn := (Kd.R_reads' HR.out).1
   rw [hrn] at HX2 HR ⊢
   clear hrn
   have c0 := (blk_cell HX2.out 0).trans rfl
   have c1 := (blk_cell HX2.out 1).trans rfl
   have c2 := (blk_cell HX2.out 2).trans rfl
   have c3 := (blk_cell HX2.out 3).trans rfl
   have hfz := blk_frozen HX2.out 2
   go_wp2_with fail
   obtain ⟨hrn, hrc, hrC⟩ := Kd.R_reads' HR.out
   refine (session_acked.calls id nx ak _ _ (takeL l rq) (ackP nx (takeL l rq)) w8 hrC hrc HACK.out).mono ?_
   rintro e w20 ⟨rfl, b⟩
   have HX2' := hd (blk_below HX2.out b)
   have HX4' := hd (blk_below HX4.out b)
   have HB' : Hd (Below w.heap.size w w20) := hd (below_then HB.out HB.out.size b)
   have HR' := hd (Kd.R_below HR.out b)
   clear b c0 c1 c2 c3 hfz HX2 HX4 HB HR hrC
   have c0 := (blk_cell HX2'.out 0).trans rfl
   have c1 := (blk_cell HX2'.out 1).trans rfl
   have c2 := (blk_cell HX2'.out 2).trans rfl
   have c3 := (blk_cell HX2'.out 3).trans rfl
   have hfz := blk_frozen HX2'.out 2
   go_upto_region 8 with (fail)
   have HX2 := hd (blk_put HX2'.out 2 (.int .i64 (ackP nx (takeL l rq))) rfl)
   have HX4 := hd (blk_far (p := ⟨g2, 2, none⟩) HX4'.out HNE.out (.int .i64 (ackP nx (takeL l rq))))
   have HB : Hd (Below w.heap.size w (w20.setCell ⟨g2, 2, none⟩ (.int .i64 (ackP nx (takeL l rq))))) := hd (below_set HB'.out HG2.out)
   have HR := hd (Kd.R_far (p := ⟨g2, 2, none⟩) HR'.out (fun k_ hk => Nat.ne_of_gt (HLT.out k_ hk).2) (.int .i64 (ackP nx (takeL l rq))))
   clear HX2' HX4' HB' HR' c0 c1 c2 c3 hfz
   generalize w20.setCell ⟨g2, 2, none⟩ (.int .i64 (ackP nx (takeL l rq))) = w21 at HX2 HX4 HB HR ⊢
   have c0 := (blk_cell HX2.out 0).trans rfl
   have c1 := (blk_cell HX2.out 1).trans rfl
   have c2 := (blk_cell HX2.out 2).trans rfl
   have c3 := (blk_cell HX2.out 3).trans rfl
   go_wp2_with ((with_reducible refine gate_store (t := 50) (p := 4) rfl ?_); refine wpList_store_row rfl 50 (.tmp 4) (.tmp 35) rfl g4 #[.int .i64 id, .int .i64 nx, .int .i64 (ackP nx (takeL l rq)), (.slice (some ⟨g, 0, none⟩) (takeL l rq).length c4)] rfl rfl 50 _ HX4.out (by kernel_rfl) rfl (by simp [Value.oneCell']) ?_)
   refine bodyPost_ret (results_ctt rfl _ _ g4 50 #[.int .i64 id, .int .i64 nx, .int .i64 (ackP nx (takeL l rq)), (.slice (some ⟨g, 0, none⟩) (takeL l rq).length c4)] (0, 0) _ rfl (setRow_heap _ _ _ _ _ _ HX4.out) Try.underlying50 rfl (by kernel_rfl)) rfl ?_
   have HRZ := Kd.R_step (w1 := w21.setRow g4 #[.int .i64 id, .int .i64 nx, .int .i64 (ackP nx (takeL l rq)), (.slice (some ⟨g, 0, none⟩) (takeL l rq).length c4)]) HR.out (fun k hk hl => setRow_other _ _ _ _ (fun e => by have := (HLT.out k hk).1; omega))
   obtain ⟨hrn, hrc, hrC⟩ := Kd.R_reads' HRZ
   exact ⟨_, _, by rw [HE.out]; rfl, by rw [HE.out]; exact hrc, by rw [HE.out]; exact hrC, below_setRow HB.out HG4.out.1 _⟩
  | false =>
   have he := p3 rfl
   clear p2 p3
   have hrn : l.length = (takeL l rq).length := congrArg List.length he
   have HR := hd (show Kd.R k70 70 w6 w3.heap.size (fun k_ => w3.heap.size ≤ k_) (.slice A4 l.length c4) (takeL l rq) by rw [← he]; exact HR4.out)
   clear HR4 he
   rw [hrn] at HX2 HR ⊢
   clear hrn
   go_upto_region 7 with (fail)
   have c0 := (blk_cell HX2.out 0).trans rfl
   have c1 := (blk_cell HX2.out 1).trans rfl
   have c2 := (blk_cell HX2.out 2).trans rfl
   have c3 := (blk_cell HX2.out 3).trans rfl
   have hfz := blk_frozen HX2.out 2
   go_wp2_with fail
   obtain ⟨hrn, hrc, hrC⟩ := Kd.R_reads' HR.out
   refine (session_acked.calls id nx ak _ _ (takeL l rq) (ackP nx (takeL l rq)) w6 hrC hrc HACK.out).mono ?_
   rintro e w20 ⟨rfl, b⟩
   have HX2' := hd (blk_below HX2.out b)
   have HX4' := hd (blk_below HX4.out b)
   have HB' : Hd (Below w.heap.size w w20) := hd (below_then HB.out HB.out.size b)
   have HR' := hd (Kd.R_below HR.out b)
   clear b c0 c1 c2 c3 hfz HX2 HX4 HB HR hrC
   have c0 := (blk_cell HX2'.out 0).trans rfl
   have c1 := (blk_cell HX2'.out 1).trans rfl
   have c2 := (blk_cell HX2'.out 2).trans rfl
   have c3 := (blk_cell HX2'.out 3).trans rfl
   have hfz := blk_frozen HX2'.out 2
   go_upto_region 8 with (fail)
   have HX2 := hd (blk_put HX2'.out 2 (.int .i64 (ackP nx (takeL l rq))) rfl)
   have HX4 := hd (blk_far (p := ⟨g2, 2, none⟩) HX4'.out HNE.out (.int .i64 (ackP nx (takeL l rq))))
   have HB : Hd (Below w.heap.size w (w20.setCell ⟨g2, 2, none⟩ (.int .i64 (ackP nx (takeL l rq))))) := hd (below_set HB'.out HG2.out)
   have HR := hd (Kd.R_far (p := ⟨g2, 2, none⟩) HR'.out (fun k_ hk => Nat.ne_of_gt (HLT.out k_ hk).2) (.int .i64 (ackP nx (takeL l rq))))
   clear HX2' HX4' HB' HR' c0 c1 c2 c3 hfz
   generalize w20.setCell ⟨g2, 2, none⟩ (.int .i64 (ackP nx (takeL l rq))) = w21 at HX2 HX4 HB HR ⊢
   have c0 := (blk_cell HX2.out 0).trans rfl
   have c1 := (blk_cell HX2.out 1).trans rfl
   have c2 := (blk_cell HX2.out 2).trans rfl
   have c3 := (blk_cell HX2.out 3).trans rfl
   go_wp2_with ((with_reducible refine gate_store (t := 50) (p := 4) rfl ?_); refine wpList_store_row rfl 50 (.tmp 4) (.tmp 35) rfl g4 #[.int .i64 id, .int .i64 nx, .int .i64 (ackP nx (takeL l rq)), (.slice A4 (takeL l rq).length c4)] rfl rfl 50 _ HX4.out (by kernel_rfl) rfl (by simp [Value.oneCell']) ?_)
   refine bodyPost_ret (results_ctt rfl _ _ g4 50 #[.int .i64 id, .int .i64 nx, .int .i64 (ackP nx (takeL l rq)), (.slice A4 (takeL l rq).length c4)] (0, 0) _ rfl (setRow_heap _ _ _ _ _ _ HX4.out) Try.underlying50 rfl (by kernel_rfl)) rfl ?_
   have HRZ := Kd.R_step (w1 := w21.setRow g4 #[.int .i64 id, .int .i64 nx, .int .i64 (ackP nx (takeL l rq)), (.slice A4 (takeL l rq).length c4)]) HR.out (fun k hk hl => setRow_other _ _ _ _ (fun e => by have := (HLT.out k hk).1; omega))
   obtain ⟨hrn, hrc, hrC⟩ := Kd.R_reads' HRZ
   exact ⟨_, _, by rw [HE.out]; rfl, by rw [HE.out]; exact hrc, by rw [HE.out]; exact hrC, below_setRow HB.out HG4.out.1 _⟩
end Go.Proofs.Ytafnjlgdjhegaaa.Pr
end
section
namespace Go.Proofs.Ytafnjlgdjhegaaa.Pr
open Go.RowKit Go.Proofs.YtafnjlgdjhegaaaW.PrintWords Go.Proofs.YtafnjlgdjhegaaaW.PrintLast
set_option linter.unusedVariables false
set_option linter.unusedSimpArgs false
theorem rd70_nat (l : List S70) (i : Nat) : rd_T70 l (i : Int) = l.getD i z70 := by simp [rd_T70]
theorem getD70_at (l : List S70) (i : Nat) (h : i < l.length) : l.getD i z70 = l[i] := by rw [List.getD_eq_getElem?_getD, List.getElem?_eq_getElem h]; rfl
theorem wrap_s (i : Nat) (h : i < 9223372036854775807) : wrap64 ((i : Int) + 1) = ((i + 1 : Nat) : Int) := by unfold wrap64; omega
/-- Is all of it small enough to be copied? -/
def small70 (l : List S70) : Prop := l.length < 4398046511104 ∧ ∀ x ∈ l, x.f1.length < 140737488355328
theorem waits_loop (l : List S70) (h : small70 l) (d : Nat) : ∀ i : Nat, l.length - i = d → i ≤ l.length → Ev (fun k => session_waits.l0 k (l.take i) l (l.length : Int) i) l := by
 have hlen := h.1
 induction d with
 | zero =>
  intro i hd hi
  refine Ev.step (f := fun _ => some l) (fun k => ?_) (Ev.now _)
  simp only [session_waits.l0]
  rw [if_neg (by omega), List.take_of_length_le (by omega)]
 | succ d ih =>
  intro i hd hi
  have hcl : slices_Clone_byte_byte.f (l.getD i z70).f1 = some (l.getD i z70).f1 := by
   unfold slices_Clone_byte_byte.f
   rw [if_pos]
   rw [getD70_at _ i (by omega)]
   exact h.2 _ (List.getElem_mem _)
  refine Ev.step (fun k => ?_) (ih (i + 1) (by omega) (by omega))
  simp only [session_waits.l0]
  rw [if_pos (by omega), if_pos (by omega), if_pos (by omega), rd70_nat, hcl, Option.bind_some, if_pos (by rw [List.length_take]; omega), wrap_s i (by omega), List.take_succ_eq_append_getElem (by omega), getD70_at _ i (by omega)]
theorem waits_ev (l : List S70) (h : small70 l) : Ev (fun k => session_waits.f k l) l := waits_loop l h _ 0 rfl (by omega)
theorem copyB {l : List Int} (h : l.length < 140737488355328) : musterlow_CopyBytes.f l = some l := by
 unfold musterlow_CopyBytes.f
 rw [if_pos (by simpa using h)]
 rfl
theorem copya_loop (a b c : Int) (l : List S70) (h : small70 l) (d : Nat) : ∀ i : Nat, l.length - i = d → i ≤ l.length → Ev (fun k => musterlow_CopyAsker.l0 k (l.take i) i a b c l) (a, b, c, l) := by
 have hlen := h.1
 induction d with
 | zero =>
  intro i hd hi
  refine Ev.step (f := fun _ => some (a, b, c, l)) (fun k => ?_) (Ev.now _)
  simp only [musterlow_CopyAsker.l0]
  rw [if_neg (by omega), List.take_of_length_le (by omega)]
 | succ d ih =>
  intro i hd hi
  have hcl : musterlow_CopyBytes.f (l.getD i z70).f1 = some (l.getD i z70).f1 := copyB (by rw [getD70_at _ i (by omega)]; exact h.2 _ (List.getElem_mem _))
  refine Ev.step (fun k => ?_) (ih (i + 1) (by omega) (by omega))
  simp only [musterlow_CopyAsker.l0]
  rw [if_pos (by omega), if_pos (by omega), rd70_nat, hcl, Option.bind_some, if_pos (by rw [List.length_take]; omega), wrap_s i (by omega), List.take_succ_eq_append_getElem (by omega), getD70_at _ i (by omega)]
theorem copya_ev (a b c : Int) (l : List S70) (h : small70 l) : Ev (fun k => musterlow_CopyAsker.f k a b c l) (a, b, c, l) := copya_loop a b c l h _ 0 rfl (by omega)
theorem sameB (l : List Int) : musterlow_SameBytes.f l l = some true := by unfold musterlow_SameBytes.f; rw [beq_self_eq_true]
theorem samea_loop (a b c : Int) (l : List S70) (h : l.length < 9223372036854775807) (d : Nat) : ∀ i : Nat, l.length - i = d → i ≤ l.length → Ev (fun k => musterlow_SameAsker.l0 k i a b c l a b c l) true := by
 induction d with
 | zero =>
  intro i hd hi
  refine Ev.step (f := fun _ => some true) (fun k => ?_) (Ev.now _)
  simp only [musterlow_SameAsker.l0]
  rw [if_neg (by omega)]
 | succ d ih =>
  intro i hd hi
  refine Ev.step (fun k => ?_) (ih (i + 1) (by omega) (by omega))
  simp only [musterlow_SameAsker.l0]
  rw [if_pos (by omega), if_pos (by omega), if_pos (by omega), if_pos trivial, sameB, Option.bind_some, if_pos rfl, wrap_s i (by omega)]
theorem samea_ev (a b c : Int) (l : List S70) (h : l.length < 9223372036854775807) : Ev (fun k => musterlow_SameAsker.f k a b c l a b c l) true := by
 refine Ev.step (fun k => ?_) (samea_loop a b c l h _ 0 rfl (by omega))
 unfold musterlow_SameAsker.f
 rw [if_pos rfl, if_pos rfl, if_pos rfl]
 simp only [musterlow_SameAsker.j0]
 rw [if_neg (by simp)]
 rfl
/-! ### RightAsker -/
/-- What the document asks of the waits, from one on. -/
def riseN (nx : Int) : Int → List Int → Bool
 | _, [] => true
 | a, x :: l => !decide (x ≤ a) && !decide (x ≥ nx) && riseN nx x l
theorem acked_ref (id nx ak : Int) (l : List S70) (h1 : 1 ≤ nx) (h2 : nx ≤ 4611686018427387904) (hm : ∀ x ∈ l, 0 < x.f0 ∧ x.f0 ≤ 4611686018427387904) : musterref09_Acked.f id nx ak l = some (ackP nx l) := by
 cases l with
 | nil =>
  simp only [musterref09_Acked.f, ackP, List.length_nil]
  rw [if_pos (show ((0 : Nat) : Int) = 0 from rfl)]
  congr 1
  unfold wrap64
  omega
 | cons x l =>
  have hx := hm x (by simp)
  simp only [musterref09_Acked.f, ackP, List.length_cons]
  rw [if_neg (by omega), if_pos (by omega)]
  congr 1
  have e : (rd_T70 (x :: l) 0).f0 = x.f0 := rfl
  rw [e]
  unfold wrap64
  omega
theorem riseN_mem {nx : Int} : ∀ (l : List Int) (a : Int), 0 ≤ a → riseN nx a l = true → ∀ x ∈ l, 0 < x ∧ x < nx
 | [], a, _, _, x, hx => by cases hx
 | y :: l, a, ha, h, x, hx => by
  simp only [riseN, Bool.and_eq_true, Bool.not_eq_true', decide_eq_false_iff_not] at h
  rcases List.mem_cons.1 hx with rfl | hx
  ·omega
  ·exact riseN_mem l y (by omega) h.2 x hx
theorem refRA_loop (id nx ak : Int) (l : List S70) (hl : l.length < 9223372036854775807) (h1 : 1 ≤ nx) (h2 : nx ≤ 4611686018427387904) (hak : i64 ak) (pre : ∀ a : Int, True) (d : Nat) : ∀ (i : Nat) (a : Int), l.length - i = d → i ≤ l.length → (∀ x ∈ l.take i, 0 < x.f0 ∧ x.f0 < nx) →
  0 ≤ a → Ev (fun k => musterref09_RightAsker.l0 k a i id nx ak l) (riseN nx a ((l.drop i).map S70.f0) && decide (ak = ackP nx l) && decide (nx - 1 - ak ≤ 8)) := by
 induction d with
 | zero =>
  intro i a hd hi hp ha
  have hm : ∀ x ∈ l, 0 < x.f0 ∧ x.f0 ≤ 4611686018427387904 := fun x hx => by
   have := hp x (by rw [List.take_of_length_le (by omega)]; exact hx)
   omega
  have hA := acked_ref id nx ak l h1 h2 hm
  have hb : 0 ≤ ackP nx l ∧ ackP nx l < 4611686018427387904 := by
   cases l with
   | nil => simp only [ackP]; omega
   | cons x l => have := hm x (by simp); simp only [ackP]; omega
  rw [List.drop_of_length_le (by omega)]
  refine Ev.step (f := fun _ => some _) (fun k => ?_) (Ev.now _)
  simp only [musterref09_RightAsker.l0]
  rw [if_neg (by omega), hA, Option.bind_some]
  by_cases he : ak = ackP nx l
  ·rw [if_pos he, decide_eq_true he]
   have hw : wrap64 (wrap64 (nx - 1) - ak) = nx - 1 - ak := by rw [he]; unfold wrap64; omega
   rw [hw]
   simp [riseN]
  ·rw [if_neg he, decide_eq_false he]
   simp
 | succ d ih =>
  intro i a hd hi hp ha
  have hdr : (l.drop i).map S70.f0 = (l[i]).f0 :: (l.drop (i + 1)).map S70.f0 := by rw [List.drop_eq_getElem_cons (by omega), List.map_cons]
  rw [hdr, riseN]
  by_cases c1 : (l[i]).f0 ≤ a
  ·rw [decide_eq_true c1]
   refine Ev.step (f := fun _ => some _) (fun k => ?_) (Ev.now _)
   simp only [musterref09_RightAsker.l0]
   rw [if_pos (by omega), if_pos (by omega), rd70_nat, getD70_at _ i (by omega), if_pos c1]
   simp
  ·by_cases c2 : (l[i]).f0 ≥ nx
   ·rw [decide_eq_true c2]
    refine Ev.step (f := fun _ => some _) (fun k => ?_) (Ev.now _)
    simp only [musterref09_RightAsker.l0]
    rw [if_pos (by omega), if_pos (by omega), rd70_nat, getD70_at _ i (by omega), if_neg c1, if_pos c2]
    simp
   ·rw [decide_eq_false c1, decide_eq_false c2]
    have hi2 := ih (i + 1) (l[i]).f0 (by omega) (by omega) (fun x hx => by
     rw [List.take_succ_eq_append_getElem (by omega)] at hx
     rcases List.mem_append.1 hx with hx | hx
     ·exact hp x hx
     ·rw [List.mem_singleton.1 hx]; omega) (by omega)
    simp only [Bool.not_false, Bool.true_and]
    refine Ev.step (fun k => ?_) hi2
    simp only [musterref09_RightAsker.l0]
    rw [if_pos (by omega), if_pos (by omega), rd70_nat, getD70_at _ i (by omega), if_neg c1, if_neg c2, wrap_s i (by omega)]
/-- Rising below the next one: as the program asks it. -/
theorem riseN_eq {nx : Int} (h2 : nx ≤ 4611686018427387904) : ∀ (l : List S70) (a : Int), riseN nx a (l.map S70.f0) = (rises a (l.map S70.f0) && (decide (l.length = 0) || decide (lastN l < nx)))
 | [], a => rfl
 | x :: l, a => by
  have ih := riseN_eq h2 l x.f0
  rw [List.map_cons, riseN, rises, ih]
  have hz : decide ((x :: l).length = 0) = false := by simp
  rw [hz, Bool.false_or]
  by_cases hr : rises x.f0 (l.map S70.f0) = true
  ·rw [hr]
   cases l with
   | nil =>
    have e : lastN [x] = x.f0 := rfl
    rw [e]
    simp only [List.length_nil, decide_true, Bool.true_or, Bool.and_true, Bool.true_and]
    by_cases c1 : x.f0 ≤ a <;> by_cases c2 : x.f0 < nx <;> by_cases c3 : 4611686018427387904 < x.f0 <;> simp [c1, c2, c3] <;> omega
   | cons y l =>
    have e : lastN (x :: y :: l) = lastN (y :: l) := by simp [lastN]
    have hz2 : decide ((y :: l).length = 0) = false := by simp
    rw [e, hz2, Bool.false_or, Bool.true_and]
    obtain ⟨g1, _⟩ := rises_get _ _ hr
    have hlast : x.f0 < lastN (y :: l) := by
     have := g1 ((y :: l).length - 1) (by simp)
     rw [map_getD (y :: l) _ (by simp)] at this
     unfold lastN
     rw [getD70_at _ _ (by simp)]
     exact this
    by_cases c1 : x.f0 ≤ a <;> by_cases c2 : lastN (y :: l) < nx <;> by_cases c3 : 4611686018427387904 < x.f0 <;> by_cases c4 : x.f0 ≥ nx <;> simp [c1, c2, c3, c4] <;> omega
  ·have hf : rises x.f0 (l.map S70.f0) = false := by simpa using hr
   rw [hf]
   simp
theorem refRA_ev (id nx ak : Int) (l : List S70) (hl : l.length < 9223372036854775807) (hak : i64 ak) : Ev (fun k => musterref09_RightAsker.f k id nx ak l) (askerB id nx ak l) := by
 have bad : ∀ b, b = false → askerB id nx ak l = b → Ev (fun k => musterref09_RightAsker.j0 k true id nx ak l) (askerB id nx ak l) := by
  intro b hb he
  rw [he, hb]
  refine Ev.step (f := fun _ => some false) (fun k => ?_) (Ev.now _)
  simp only [musterref09_RightAsker.j0]
  rw [if_pos trivial]
 unfold musterref09_RightAsker.f
 by_cases c1 : id < 1
 ·simp only [if_pos c1]
  exact bad false rfl (by unfold askerB; rw [decide_eq_false (by omega)]; simp)
 ·simp only [if_neg c1]
  by_cases c2 : id > 4611686018427387904
  ·simp only [if_pos c2]
   exact bad false rfl (by unfold askerB; rw [decide_eq_false (show ¬ id ≤ 4611686018427387904 by omega)]; simp)
  ·simp only [if_neg c2]
   by_cases c3 : nx < 1
   ·simp only [if_pos c3]
    exact bad false rfl (by unfold askerB; rw [decide_eq_false (show ¬ 1 ≤ nx by omega)]; simp)
   ·simp only [if_neg c3]
    by_cases c4 : nx > 4611686018427387904
    ·rw [decide_eq_true c4]
     exact bad false rfl (by unfold askerB; rw [decide_eq_false (show ¬ nx ≤ 4611686018427387904 by omega)]; simp)
    ·rw [decide_eq_false c4]
     have h := refRA_loop id nx ak l hl (by omega) (by omega) hak (fun _ => trivial) _ 0 0 rfl (by omega) (by simp) (by omega)
     rw [List.drop_zero, riseN_eq (by omega)] at h
     have e : askerB id nx ak l = ((rises 0 (l.map S70.f0) && (decide (l.length = 0) || decide (lastN l < nx))) && decide (ak = ackP nx l) && decide (nx - 1 - ak ≤ 8)) := by
      unfold askerB
      rw [decide_eq_true (show 1 ≤ id by omega), decide_eq_true (show id ≤ 4611686018427387904 by omega), decide_eq_true (show 1 ≤ nx by omega), decide_eq_true (show nx ≤ 4611686018427387904 by omega)]
      simp only [Bool.true_and]
     rw [e]
     refine Ev.step (fun k => ?_) h
     simp only [musterref09_RightAsker.j0]
     rw [if_neg (by simp)]
     rfl
end Go.Proofs.Ytafnjlgdjhegaaa.Pr
end
section
namespace Go.Proofs.Ytafnjlgdjhegaaa.Pr
open Go.RowKit Go.Proofs.YtafnjlgdjhegaaaW.PrintWords Go.Proofs.YtafnjlgdjhegaaaW.PrintLast
set_option linter.unusedVariables false
set_option linter.unusedSimpArgs false
/-- What Ask tells. -/
def askS (id nx ak : Int) (l : List S70) (body : List Int) : Int × Int × Int × List S70 × Int × Int :=
 if askerB id nx ak l = true then
  if (body.length : Int) > 65536 then (0, 0, 0, [], 0, 3)
  else if nx - 1 - ak ≥ 8 then (0, 0, 0, [], 0, 7)
  else if nx = 4611686018427387904 then (0, 0, 0, [], 0, 5)
  else (id, nx + 1, ak, l ++ [⟨nx, body⟩], nx, 0)
 else (0, 0, 0, [], 0, 2)
theorem asker_more {id nx ak : Int} {l : List S70} (h : askerB id nx ak l = true) : (1 ≤ nx ∧ nx ≤ 4611686018427387904) ∧ (0 ≤ ak ∧ ak < 4611686018427387904) ∧ nx - 1 - ak ≤ 8 ∧ ∀ x ∈ l, 0 < x.f0 ∧ x.f0 ≤ 4611686018427387904 := by
 obtain ⟨h1, h2⟩ := asker_parts h
 have hm : ∀ x ∈ l, 0 < x.f0 ∧ x.f0 ≤ 4611686018427387904 := fun x hx => rises_mem h2 x.f0 (List.mem_map.2 ⟨x, hx, rfl⟩)
 unfold askerB at h
 simp only [Bool.and_eq_true, decide_eq_true_eq] at h
 have hak : ak = ackP nx l := h.1.2
 have hb : 0 ≤ ackP nx l ∧ ackP nx l < 4611686018427387904 := by
  cases l with
  | nil => simp only [ackP]; omega
  | cons x l => have := hm x (by simp); simp only [ackP]; omega
 refine ⟨h1, by rw [hak]; exact hb, h.2, hm⟩
theorem rightA_is {id nx ak : Int} {l : List S70} (hak : i64 ak) : session_RightAsker.f id nx ak l = some (askerB id nx ak l) := by
 unfold session_RightAsker.f
 rw [if_pos]
 unfold i64D
 obtain ⟨h1, h2⟩ := hak
 simp [h1, h2]
theorem ask_ev (id nx ak : Int) (l : List S70) (body : List Int) (hs : small70 l) (hak : i64 ak) (hb : body.length < 140737488355328) : Ev (fun k => session_Ask.f k id nx ak l body) (askS id nx ak l body) := by
 obtain ⟨K, hK0⟩ := waits_ev l hs
 have hK : ∀ k, K ≤ k → session_waits.f k l = some l := hK0
 refine ⟨K, fun k hk => ?_⟩
 show session_Ask.f k id nx ak l body = _
 unfold session_Ask.f askS
 rw [rightA_is hak, Option.bind_some]
 by_cases c : askerB id nx ak l = true
 ·obtain ⟨h1, h2, h3, h4⟩ := asker_more c
  rw [if_pos c, if_pos c]
  by_cases c1 : (body.length : Int) > 65536
  ·rw [if_pos c1, if_pos c1]
  ·rw [if_neg c1, if_neg c1]
   have hw : wrap64 (wrap64 (nx - 1) - ak) = nx - 1 - ak := by unfold wrap64; omega
   rw [hw]
   by_cases c2 : nx - 1 - ak ≥ 8
   ·rw [if_pos c2, if_pos c2]
   ·rw [if_neg c2, if_neg c2]
    by_cases c3 : nx = 4611686018427387904
    ·rw [if_pos c3, if_pos c3]
    ·have hcl : slices_Clone_byte_byte.f body = some body := by unfold slices_Clone_byte_byte.f; rw [if_pos hb]
     have hw2 : wrap64 (nx + 1) = nx + 1 := by unfold wrap64; omega
     rw [if_neg c3, if_neg c3, hK k hk, Option.bind_some, hcl, Option.bind_some, if_pos hs.1, hw2]
 ·rw [if_neg c, if_neg c]
theorem refA_ev (id nx ak : Int) (l : List S70) (body : List Int) (hs : small70 l) (hak : i64 ak) (hb : body.length < 140737488355328) : Ev (fun k => musterref09_Ask.f k id nx ak l body) (askS id nx ak l body) := by
 obtain ⟨K, hK0⟩ := refRA_ev id nx ak l (by have := hs.1; omega) hak
 have hK : ∀ k, K ≤ k → musterref09_RightAsker.f k id nx ak l = some (askerB id nx ak l) := hK0
 refine ⟨K, fun k hk => ?_⟩
 show musterref09_Ask.f k id nx ak l body = _
 unfold musterref09_Ask.f askS
 rw [hK k hk, Option.bind_some]
 by_cases c : askerB id nx ak l = true
 ·obtain ⟨h1, h2, h3, h4⟩ := asker_more c
  rw [if_pos c, if_pos c]
  by_cases c1 : (body.length : Int) > 65536
  ·rw [if_pos c1, if_pos c1]
  ·rw [if_neg c1, if_neg c1]
   have hw : wrap64 (wrap64 (nx - 1) - ak) = nx - 1 - ak := by unfold wrap64; omega
   rw [hw]
   by_cases c2 : nx - 1 - ak = 8
   ·rw [if_pos c2, if_pos (show nx - 1 - ak ≥ 8 by omega)]
   ·rw [if_neg c2, if_neg (show ¬ nx - 1 - ak ≥ 8 by omega)]
    by_cases c3 : nx = 4611686018427387904
    ·rw [if_pos c3, if_pos c3]
    ·have hw2 : wrap64 (nx + 1) = nx + 1 := by unfold wrap64; omega
     have hw3 : wrap64 (nx + 1 - 1) = nx := by unfold wrap64; omega
     have hs1 := hs.1
     rw [if_neg c3, if_neg c3, if_pos (by simpa using hs1), Option.bind_some, copyB hb, Option.bind_some, List.nil_append, if_pos hs1, hw2, hw3]
 ·rw [if_neg c, if_neg c]
theorem takeL_snoc (l : List S70) (i : Nat) (h : i < l.length) (rq : Int) : takeL (l.take (i + 1)) rq = takeL (l.take i) rq ++ if (l[i]).f0 = rq then [] else [l[i]] := by
 unfold takeL
 rw [List.take_succ_eq_append_getElem h, List.filter_append]
 congr 1
 by_cases c : (l[i]).f0 = rq
 ·rw [if_pos c]; simp [c]
 ·rw [if_neg c]; simp [c]
theorem hasL_snoc (l : List S70) (i : Nat) (h : i < l.length) (rq : Int) : hasL (l.take (i + 1)) rq = (hasL (l.take i) rq || decide ((l[i]).f0 = rq)) := by
 unfold hasL
 rw [List.take_succ_eq_append_getElem h, List.any_append]
 simp
theorem refT_loop (id nx ak : Int) (l : List S70) (rq : Int) (hl : l.length < 4398046511104) (hA : ∀ m : List S70, (∀ x ∈ m, x ∈ l) → musterref09_Acked.f id nx ak m = some (ackP nx m)) (d : Nat) : ∀ i : Nat, l.length - i = d → i ≤ l.length →
  Ev (fun k => musterref09_Take.l0 k rq (takeL (l.take i) rq) (hasL (l.take i) rq) i id nx ak l) (id, nx, ackP nx (takeL l rq), takeL l rq, hasL l rq, 0) := by
 induction d with
 | zero =>
  intro i hd hi
  rw [List.take_of_length_le (by omega)]
  refine Ev.step (f := fun _ => some _) (fun k => ?_) (Ev.now _)
  simp only [musterref09_Take.l0]
  rw [if_neg (by omega), hA (takeL l rq) (fun x hx => (List.mem_filter.1 hx).1), Option.bind_some]
 | succ d ih =>
  intro i hd hi
  have h2 := ih (i + 1) (by omega) (by omega)
  rw [takeL_snoc l i (by omega), hasL_snoc l i (by omega)] at h2
  have hlen : (takeL (l.take i) rq).length < 4398046511104 := by
   have := List.length_filter_le (fun x : S70 => !decide (x.f0 = rq)) (l.take i)
   rw [List.length_take] at this
   unfold takeL
   omega
  by_cases c : (l[i]).f0 = rq
  ·rw [if_pos c, List.append_nil, decide_eq_true c, Bool.or_true] at h2
   refine Ev.step (fun k => ?_) h2
   simp only [musterref09_Take.l0]
   rw [if_pos (by omega), if_pos (by omega), rd70_nat, getD70_at _ i (by omega), if_pos c, wrap_s i (by omega)]
  ·rw [if_neg c, decide_eq_false c, Bool.or_false] at h2
   refine Ev.step (fun k => ?_) h2
   simp only [musterref09_Take.l0]
   rw [if_pos (by omega), if_pos (by omega), rd70_nat, getD70_at _ i (by omega), if_neg c, if_pos hlen, wrap_s i (by omega)]
theorem refT_ev (id nx ak : Int) (l : List S70) (rq : Int) (hs : small70 l) (hak : i64 ak) : Ev (fun k => musterref09_Take.f k id nx ak l rq) (takeS id nx ak l rq) := by
 obtain ⟨K, hK0⟩ := refRA_ev id nx ak l (by have := hs.1; omega) hak
 have hK : ∀ k, K ≤ k → musterref09_RightAsker.f k id nx ak l = some (askerB id nx ak l) := hK0
 unfold takeS
 by_cases c : askerB id nx ak l = true
 ·obtain ⟨h1, h2, h3, h4⟩ := asker_more c
  obtain ⟨K2, hK2⟩ := refT_loop id nx ak l rq hs.1 (fun m hm => acked_ref id nx ak m h1.1 h1.2 fun x hx => h4 x (hm x hx)) _ 0 rfl (by omega)
  refine ⟨K + K2, fun k hk => ?_⟩
  show musterref09_Take.f k id nx ak l rq = _
  unfold musterref09_Take.f
  rw [hK k (by omega), Option.bind_some, if_pos c, if_pos c]
  exact hK2 k (by omega)
 ·refine ⟨K, fun k hk => ?_⟩
  show musterref09_Take.f k id nx ak l rq = _
  unfold musterref09_Take.f
  rw [hK k hk, Option.bind_some, if_neg c, if_neg c]
/-- What Begin tells. -/
def beginS (id : Int) : Int × Int × Int × List S70 × Int := if id < 1 then (0, 0, 0, [], 2) else if id > 4611686018427387904 then (0, 0, 0, [], 2) else (id, 1, 0, [], 0)
theorem begin_is (id : Int) : session_Begin.f id = some (beginS id) ∧ musterref09_Begin.f id = some (beginS id) := by
 unfold session_Begin.f musterref09_Begin.f beginS
 constructor <;> (repeat' split) <;> rfl
end Go.Proofs.Ytafnjlgdjhegaaa.Pr
end
section
namespace Go.Proofs.Ytafnjlgdjhegaaa.Pr
open Go.RowKit Go.Proofs.YtafnjlgdjhegaaaW.PrintWords Go.Proofs.YtafnjlgdjhegaaaW.PrintLast Go.Proofs.YtafnjlgdjhegaaaW.PrintMore Go.Proofs.YtafnjlgdjhegaaaG
set_option linter.unusedVariables false
set_option linter.unusedSimpArgs false
theorem holdA {p} (h : Hd p) : p := h.out
def asks.T8 : Bool × List (List Nat × List Nat) := (true, [([], []), ([0], [0]), ([], []), ([2, 1], [2]), ([1, 3], [1, 3]), ([4, 3], [4]), ([5], [5]), ([5], [5]), ([6, 7, 5], [5, 6, 7]), ([5, 8], [5, 8]), ([9, 5], [9]), ([10], [10]), ([10], [10]), ([11, 12, 10, 10], [10, 11, 12]), ([10, 13], [10, 13]), ([14, 13], [14]), ([15], [15]), ([15], [15]), ([16, 17, 15], [15, 16, 17]), ([15, 18], [15, 18]), ([19, 15], [19]), ([20], [20]), ([20], [20]), ([21, 22, 20], [20, 21, 22]), ([20, 23], [20, 23]), ([24, 20], [24]), ([25], [25]), ([25], [25]), ([26, 27, 25, 25], [25, 26, 27]), ([25, 28], [25, 28]), ([29, 28], [29]), ([30], [30]), ([30], [30]), ([31, 32, 30], [30, 31, 32]), ([30, 33], [30, 33]), ([34, 30], [34]), ([35], [35]), ([35], [35]), ([36, 37, 35], [35, 36, 37]), ([35, 38], [35, 38]), ([39, 35], [39]), ([40], [40]), ([40], [40]), ([41, 42, 40, 40], [40, 41, 42]), ([40, 43], [40, 43]), ([44, 43], [44]), ([45], [45]), ([45], [45]), ([46, 47, 45, 45], [45, 46, 47]), ([45, 48], [45, 48]), ([49, 48], [49]), ([50], [50]), ([50], [50]), ([51, 52, 50, 50], [50, 51, 52]), ([50, 53], [50, 53]), ([54, 53], [54]), ([55, 55], [55]), ([55, 56], [55, 56]), ([57, 56, 0, 1, 2, 3, 4, 5, 6, 7, 8, 9, 10, 11, 12, 13, 14, 15, 16, 17, 18, 19, 20, 21, 22, 23, 24, 25, 26, 27, 28, 29, 30, 31, 32, 33, 34, 35, 36, 37, 38, 39, 40, 41, 42, 43, 44, 45, 46, 47, 48, 49, 50, 51, 52, 53, 54, 55, 56, 57], [57])])
def asks.B8 : List Nat := [0, 1, 0, 7, 15, 31, 63, 63, 255, 511, 1023, 2047, 2047, 8191, 16383, 32767, 65535, 65535, 262143, 524287, 1048575, 2097151, 2097151, 8388607, 16777215, 33554431, 67108863, 67108863, 268435455, 536870911, 1073741823, 2147483647, 2147483647, 8589934591, 17179869183, 34359738367, 68719476735, 68719476735, 274877906943, 549755813887, 1099511627775, 2199023255551, 2199023255551, 8796093022207, 17592186044415, 35184372088831, 70368744177663, 70368744177663, 281474976710655, 562949953421311, 1125899906842623, 2251799813685247, 2251799813685247, 9007199254740991, 18014398509481983, 36028797018963967, 72057594037927935, 144115188075855871, 288230376151711743]
theorem asks.tab8 : rtab .any (opsOf Try.f6 8) = asks.T8 := by kernel_rfl
theorem asks.bits8 : waitsOk asks.T8.2 asks.B8 = true := by kernel_rfl
set_option maxRecDepth 100000 in
set_option maxHeartbeats 4000000 in
theorem asks_walk (k : Nat) (id a0 a1 a2 rq : Int) (A : Option Addr) (c : Nat) (l : List S70) (B : Option Addr) (d : Nat) (body : List Int) (w : World) (rb : Bool)
  (x1 x2 x3 xe b1 b2 b3 bn be s1 s2 s3 se : Int) (xl bl sl : List S70) (sw : Bool)
  (hr : Kd.C k70 w A l.length l) (hc0 : l.length ≤ c) (hp : Kd.C (Kd.int .u8) w B body.length body) (hc4 : body.length ≤ d) (hlen : body.length + 3 < 140737488355328) (hak : i64 a2) (hrq : i64 rq) (hll : l.length < 4398046511104)
  (h1 : musterlow_CopyAsker.f k a0 a1 a2 l = some (a0, a1, a2, l)) (h2 : session_Begin.f id = some (x1, x2, x3, xl, xe)) (h3 : musterref09_Begin.f id = some (x1, x2, x3, xl, xe))
  (h4 : session_Ask.f k a0 a1 a2 l body = some (b1, b2, b3, bl, bn, be)) (h5 : musterref09_Ask.f k a0 a1 a2 l body = some (b1, b2, b3, bl, bn, be)) (h6 : takeS a0 a1 a2 l rq = (s1, s2, s3, sl, sw, se)) (h7 : musterref09_Take.f k a0 a1 a2 l rq = some (s1, s2, s3, sl, sw, se))
  (h9 : session_waits.f k l = some l) (h10 : musterref09_RightAsker.f k a0 a1 a2 l = some rb) (h11 : askerB a0 a1 a2 l = rb)
  (h12 : musterlow_SameAsker.f k x1 x2 x3 xl x1 x2 x3 xl = some true) (h13 : musterlow_SameAsker.f k b1 b2 b3 bl b1 b2 b3 bl = some true) (h14 : musterlow_SameAsker.f k s1 s2 s3 sl s1 s2 s3 sl = some true) (h15 : musterlow_SameAsker.f k a0 a1 a2 l a0 a1 a2 l = some true) :
  Calls Try.prog 6 #[.int .i64 id, .agg #[.int .i64 a0, .int .i64 a1, .int .i64 a2, .slice A l.length c], .slice B body.length d, .int .i64 rq] w fun e w' => e = .returned (.bool true) ∧ Below w.heap.size w w' := by
 have hu50 := Try.underlying50
 have F1 := hd h1
 have F2 := hd h2
 have F3 := hd h3
 have F4 := hd h4
 have F5 := hd h5
 have F6 := hd h6
 have F7 := hd h7
 have F9 := hd h9
 have F10 := hd h10
 have F11 := hd h11
 have F12 := hd h12
 have F13 := hd h13
 have F14 := hd h14
 have F15 := hd h15
 have HR := hd (Kd.C_below hr (below_alloc (Below.refl _ w) (.cells #[.int .i64 a0, .int .i64 a1, .int .i64 a2, .slice A l.length c] 50)))
 have HP := hd (Kd.C_below hp (below_alloc (Below.refl _ w) (.cells #[.int .i64 a0, .int .i64 a1, .int .i64 a2, .slice A l.length c] 50)))
 have HB : Hd (Below w.heap.size w (w.alloc (.cells #[.int .i64 a0, .int .i64 a1, .int .i64 a2, .slice A l.length c] 50))) := hd (below_alloc (Below.refl _ w) _)
 have HX5 := hd (blk_new w (.cells #[.int .i64 a0, .int .i64 a1, .int .i64 a2, .slice A l.length c] 50))
 clear h1 h2 h3 h4 h5 h6 h7 h9 h10 h11 h12 h13 h14 h15 hr hp
 go_enter Try.func6, Try.ntmps6
 go_upto_region 1 with (fail)
 generalize w.alloc _ = w0 at HR HP HB HX5 ⊢
 have q0 := (blk_cell HX5.out 0).trans rfl
 have q1 := (blk_cell HX5.out 1).trans rfl
 have q2 := (blk_cell HX5.out 2).trans rfl
 have q3 := (blk_cell HX5.out 3).trans rfl
 go_wp2_with fail
 refine (musterlow_CopyAsker.calls k a0 a1 a2 A c l a0 a1 a2 l w0 HR.out hc0 F1.out).mono ?_
 rintro e w1 ⟨v1, rfl, r1, b⟩
 obtain ⟨A1, c1, rfl, hc1, k1⟩ := Kd.R_reads (Kd.S_R r1)
 have K1 := hd k1
 have HC1 := hd hc1
 clear r1 k1 hc1
 clear q0 q1 q2 q3
 replace HR := hd (Kd.C_below HR.out b)
 replace HP := hd (Kd.C_below HP.out b)
 replace HX5 := hd (blk_below HX5.out b)
 replace HB : Hd (Below w.heap.size w w1) := hd (below_then HB.out HB.out.size b)
 clear b
 go_wp2_with fail
 refine (lent_any B d body w1 HP.out hc4 hlen).mono ?_
 rintro e w2 ⟨B2, d2, rfl, hd2, k2, b⟩
 have K2 := hd k2
 have HC2 := hd hd2
 clear k2 hd2
 replace HR := hd (Kd.C_below HR.out b)
 replace HP := hd (Kd.C_below HP.out b)
 replace K1 := hd (Kd.C_below K1.out b)
 replace HX5 := hd (blk_below HX5.out b)
 replace HB : Hd (Below w.heap.size w w2) := hd (below_then HB.out HB.out.size b)
 clear b
 go_wp2_with (first | ((with_reducible refine gate_dst (N := 9) rfl ?_); refine box_event ?hg (N := 9) ?hd (cs := #[.int .i64 0, .int .i64 0, .int .i64 0, .slice none 0 0]) (t := 50) ?hr ?_; (case hd => rfl); (case hg => rfl); (case hr => first | (go_simp; done) | (go_simp; rfl)); intro g9 hg w3 hbox hb; have HGN := hd hg; have HPN := hd hbox; have HBN := hd hb; clear hg hbox hb) | ((with_reducible refine gate_store (t := 50) (p := 9) rfl ?_); refine wpList_store_row rfl 50 (.tmp 9) (.tmp 28) rfl g9 #[.int .i64 a0, .int .i64 a1, .int .i64 a2, .slice A1 l.length c1] rfl rfl 50 _ HPN.out (by kernel_rfl) rfl (by simp [Value.oneCell']) ?_; refine holdA ?_))
 refine ⟨?_⟩
 have b : Below w2.heap.size w2 (w3.setRow g9 #[.int .i64 a0, .int .i64 a1, .int .i64 a2, .slice A1 l.length c1]) := below_setRow HBN.out (Nat.le_of_eq HGN.out.symm) _
 have HX9 := hd (setRow_heap w3 g9 _ #[.int .i64 a0, .int .i64 a1, .int .i64 a2, .slice A1 l.length c1] 50 (0, 0) HPN.out)
 clear HPN HBN HGN
 generalize w3.setRow g9 #[.int .i64 a0, .int .i64 a1, .int .i64 a2, .slice A1 l.length c1] = w4 at b HX9 ⊢
 replace HR := hd (Kd.C_below HR.out b)
 replace HP := hd (Kd.C_below HP.out b)
 replace K1 := hd (Kd.C_below K1.out b)
 replace K2 := hd (Kd.C_below K2.out b)
 replace HX5 := hd (blk_below HX5.out b)
 replace HB : Hd (Below w.heap.size w w4) := hd (below_then HB.out HB.out.size b)
 clear b
 go_wp2_with fail
 refine (session_Begin.calls id x1 x2 x3 xl xe w4 F2.out).mono ?_
 rintro e w5 ⟨v, rfl, r, b⟩
 obtain ⟨AX, cAX, rfl, hcc, kk⟩ := Kd.R_reads (Kd.S_R r)
 have KAX := hd kk
 have HCAX := hd hcc
 clear r kk hcc
 replace HR := hd (Kd.C_below HR.out b)
 replace HP := hd (Kd.C_below HP.out b)
 replace K1 := hd (Kd.C_below K1.out b)
 replace K2 := hd (Kd.C_below K2.out b)
 replace HX5 := hd (blk_below HX5.out b)
 replace HX9 := hd (blk_below HX9.out b)
 replace HB : Hd (Below w.heap.size w w5) := hd (below_then HB.out HB.out.size b)
 clear b
 go_wp2_with (first | ((with_reducible refine gate_dst (N := 11) rfl ?_); refine box_event ?hg (N := 11) ?hd (cs := #[.int .i64 0, .int .i64 0, .int .i64 0, .slice none 0 0]) (t := 50) ?hr ?_; (case hd => rfl); (case hg => rfl); (case hr => first | (go_simp; done) | (go_simp; rfl)); intro g11 hg w6 hbox hb; have HGN := hd hg; have HPN := hd hbox; have HBN := hd hb; clear hg hbox hb) | ((with_reducible refine gate_store (t := 50) (p := 11) rfl ?_); refine wpList_store_row rfl 50 (.tmp 11) (.tmp 34) rfl g11 #[.int .i64 x1, .int .i64 x2, .int .i64 x3, .slice AX xl.length cAX] rfl rfl 50 _ HPN.out (by kernel_rfl) rfl (by simp [Value.oneCell']) ?_; refine holdA ?_))
 refine ⟨?_⟩
 have b : Below w5.heap.size w5 (w6.setRow g11 #[.int .i64 x1, .int .i64 x2, .int .i64 x3, .slice AX xl.length cAX]) := below_setRow HBN.out (Nat.le_of_eq HGN.out.symm) _
 have HX11 := hd (setRow_heap w6 g11 _ #[.int .i64 x1, .int .i64 x2, .int .i64 x3, .slice AX xl.length cAX] 50 (0, 0) HPN.out)
 clear HPN HBN HGN
 generalize w6.setRow g11 #[.int .i64 x1, .int .i64 x2, .int .i64 x3, .slice AX xl.length cAX] = w7 at b HX11 ⊢
 replace HR := hd (Kd.C_below HR.out b)
 replace HP := hd (Kd.C_below HP.out b)
 replace K1 := hd (Kd.C_below K1.out b)
 replace K2 := hd (Kd.C_below K2.out b)
 replace KAX := hd (Kd.C_below KAX.out b)
 replace HX5 := hd (blk_below HX5.out b)
 replace HX9 := hd (blk_below HX9.out b)
 replace HB : Hd (Below w.heap.size w w7) := hd (below_then HB.out HB.out.size b)
 clear b
 go_wp2_with fail
 refine (musterref09_Begin.calls id x1 x2 x3 xl xe w7 F3.out).mono ?_
 rintro e w8 ⟨v, rfl, r, b⟩
 obtain ⟨AY, cAY, rfl, hcc, kk⟩ := Kd.R_reads (Kd.S_R r)
 have KAY := hd kk
 have HCAY := hd hcc
 clear r kk hcc
 replace HR := hd (Kd.C_below HR.out b)
 replace HP := hd (Kd.C_below HP.out b)
 replace K1 := hd (Kd.C_below K1.out b)
 replace K2 := hd (Kd.C_below K2.out b)
 replace KAX := hd (Kd.C_below KAX.out b)
 replace HX5 := hd (blk_below HX5.out b)
 replace HX9 := hd (blk_below HX9.out b)
 replace HX11 := hd (blk_below HX11.out b)
 replace HB : Hd (Below w.heap.size w w8) := hd (below_then HB.out HB.out.size b)
 clear b
 go_wp2_with (first | ((with_reducible refine gate_dst (N := 13) rfl ?_); refine box_event ?hg (N := 13) ?hd (cs := #[.int .i64 0, .int .i64 0, .int .i64 0, .slice none 0 0]) (t := 50) ?hr ?_; (case hd => rfl); (case hg => rfl); (case hr => first | (go_simp; done) | (go_simp; rfl)); intro g13 hg w9 hbox hb; have HGN := hd hg; have HPN := hd hbox; have HBN := hd hb; clear hg hbox hb) | ((with_reducible refine gate_store (t := 50) (p := 13) rfl ?_); refine wpList_store_row rfl 50 (.tmp 13) (.tmp 39) rfl g13 #[.int .i64 x1, .int .i64 x2, .int .i64 x3, .slice AY xl.length cAY] rfl rfl 50 _ HPN.out (by kernel_rfl) rfl (by simp [Value.oneCell']) ?_; refine holdA ?_))
 refine ⟨?_⟩
 have b : Below w8.heap.size w8 (w9.setRow g13 #[.int .i64 x1, .int .i64 x2, .int .i64 x3, .slice AY xl.length cAY]) := below_setRow HBN.out (Nat.le_of_eq HGN.out.symm) _
 have HX13 := hd (setRow_heap w9 g13 _ #[.int .i64 x1, .int .i64 x2, .int .i64 x3, .slice AY xl.length cAY] 50 (0, 0) HPN.out)
 clear HPN HBN HGN
 generalize w9.setRow g13 #[.int .i64 x1, .int .i64 x2, .int .i64 x3, .slice AY xl.length cAY] = w10 at b HX13 ⊢
 replace HR := hd (Kd.C_below HR.out b)
 replace HP := hd (Kd.C_below HP.out b)
 replace K1 := hd (Kd.C_below K1.out b)
 replace K2 := hd (Kd.C_below K2.out b)
 replace KAX := hd (Kd.C_below KAX.out b)
 replace KAY := hd (Kd.C_below KAY.out b)
 replace HX5 := hd (blk_below HX5.out b)
 replace HX9 := hd (blk_below HX9.out b)
 replace HX11 := hd (blk_below HX11.out b)
 replace HB : Hd (Below w.heap.size w w10) := hd (below_then HB.out HB.out.size b)
 clear b
 have q0 := (blk_cell HX9.out 0).trans rfl
 have q1 := (blk_cell HX9.out 1).trans rfl
 have q2 := (blk_cell HX9.out 2).trans rfl
 have q3 := (blk_cell HX9.out 3).trans rfl
 have K2t : Hd (Kd.C (Kd.int .u8) w10 B2 body.length body) := hd (by
  have ht := Kd.C_take (m := body.length) K2.out (by simp)
  rwa [List.take_append_of_le_length (Nat.le_refl _), List.take_length] at ht)
 have HD2 : Hd (body.length ≤ d2) := hd (by have := HC2.out; simp at this; omega)
 go_wp2_with fail
 refine (session_Ask.calls k a0 a1 a2 A1 c1 l B2 d2 body b1 b2 b3 bl bn be w10 K1.out HC1.out K2t.out HD2.out F4.out).mono ?_
 rintro e w11 ⟨v, rfl, r, b⟩
 obtain ⟨AB, cAB, rfl, hcc, kk⟩ := Kd.R_reads (Kd.S_R r)
 have KAB := hd kk
 have HCAB := hd hcc
 clear r kk hcc K2t HD2
 clear q0 q1 q2 q3
 replace HR := hd (Kd.C_below HR.out b)
 replace HP := hd (Kd.C_below HP.out b)
 replace K1 := hd (Kd.C_below K1.out b)
 replace K2 := hd (Kd.C_below K2.out b)
 replace KAX := hd (Kd.C_below KAX.out b)
 replace KAY := hd (Kd.C_below KAY.out b)
 replace HX5 := hd (blk_below HX5.out b)
 replace HX9 := hd (blk_below HX9.out b)
 replace HX11 := hd (blk_below HX11.out b)
 replace HX13 := hd (blk_below HX13.out b)
 replace HB : Hd (Below w.heap.size w w11) := hd (below_then HB.out HB.out.size b)
 clear b
 go_wp2_with (first | ((with_reducible refine gate_dst (N := 15) rfl ?_); refine box_event ?hg (N := 15) ?hd (cs := #[.int .i64 0, .int .i64 0, .int .i64 0, .slice none 0 0]) (t := 50) ?hr ?_; (case hd => rfl); (case hg => rfl); (case hr => first | (go_simp; done) | (go_simp; rfl)); intro g15 hg w12 hbox hb; have HGN := hd hg; have HPN := hd hbox; have HBN := hd hb; clear hg hbox hb) | ((with_reducible refine gate_store (t := 50) (p := 15) rfl ?_); refine wpList_store_row rfl 50 (.tmp 15) (.tmp 45) rfl g15 #[.int .i64 b1, .int .i64 b2, .int .i64 b3, .slice AB bl.length cAB] rfl rfl 50 _ HPN.out (by kernel_rfl) rfl (by simp [Value.oneCell']) ?_; refine holdA ?_))
 refine ⟨?_⟩
 have b : Below w11.heap.size w11 (w12.setRow g15 #[.int .i64 b1, .int .i64 b2, .int .i64 b3, .slice AB bl.length cAB]) := below_setRow HBN.out (Nat.le_of_eq HGN.out.symm) _
 have HX15 := hd (setRow_heap w12 g15 _ #[.int .i64 b1, .int .i64 b2, .int .i64 b3, .slice AB bl.length cAB] 50 (0, 0) HPN.out)
 clear HPN HBN HGN
 generalize w12.setRow g15 #[.int .i64 b1, .int .i64 b2, .int .i64 b3, .slice AB bl.length cAB] = w13 at b HX15 ⊢
 replace HR := hd (Kd.C_below HR.out b)
 replace HP := hd (Kd.C_below HP.out b)
 replace K1 := hd (Kd.C_below K1.out b)
 replace K2 := hd (Kd.C_below K2.out b)
 replace KAX := hd (Kd.C_below KAX.out b)
 replace KAY := hd (Kd.C_below KAY.out b)
 replace KAB := hd (Kd.C_below KAB.out b)
 replace HX5 := hd (blk_below HX5.out b)
 replace HX9 := hd (blk_below HX9.out b)
 replace HX11 := hd (blk_below HX11.out b)
 replace HX13 := hd (blk_below HX13.out b)
 replace HB : Hd (Below w.heap.size w w13) := hd (below_then HB.out HB.out.size b)
 clear b
 have q0 := (blk_cell HX5.out 0).trans rfl
 have q1 := (blk_cell HX5.out 1).trans rfl
 have q2 := (blk_cell HX5.out 2).trans rfl
 have q3 := (blk_cell HX5.out 3).trans rfl
 go_wp2_with fail
 refine (musterref09_Ask.calls k a0 a1 a2 (fun q => q < w13.heap.size) A c l B d body b1 b2 b3 bl bn be w13 (Kd.V_mk hc0 (Kd.C_F k70_heap HR.out)) HP.out hc4 F5.out).mono ?_
 rintro e w14 ⟨v, rfl, r, b⟩
 obtain ⟨AC, cAC, rfl, hcc, kk⟩ := Kd.N_reads r
 have KAC := hd kk
 have HCAC := hd hcc
 clear r kk hcc
 clear q0 q1 q2 q3
 replace HR := hd (Kd.C_below HR.out b)
 replace HP := hd (Kd.C_below HP.out b)
 replace K1 := hd (Kd.C_below K1.out b)
 replace K2 := hd (Kd.C_below K2.out b)
 replace KAX := hd (Kd.C_below KAX.out b)
 replace KAY := hd (Kd.C_below KAY.out b)
 replace KAB := hd (Kd.C_below KAB.out b)
 replace HX5 := hd (blk_below HX5.out b)
 replace HX9 := hd (blk_below HX9.out b)
 replace HX11 := hd (blk_below HX11.out b)
 replace HX13 := hd (blk_below HX13.out b)
 replace HX15 := hd (blk_below HX15.out b)
 replace HB : Hd (Below w.heap.size w w14) := hd (below_then HB.out HB.out.size b)
 clear b
 go_wp2_with (first | ((with_reducible refine gate_dst (N := 18) rfl ?_); refine box_event ?hg (N := 18) ?hd (cs := #[.int .i64 0, .int .i64 0, .int .i64 0, .slice none 0 0]) (t := 50) ?hr ?_; (case hd => rfl); (case hg => rfl); (case hr => first | (go_simp; done) | (go_simp; rfl)); intro g18 hg w15 hbox hb; have HGN := hd hg; have HPN := hd hbox; have HBN := hd hb; clear hg hbox hb) | ((with_reducible refine gate_store (t := 50) (p := 18) rfl ?_); refine wpList_store_row rfl 50 (.tmp 18) (.tmp 52) rfl g18 #[.int .i64 b1, .int .i64 b2, .int .i64 b3, .slice AC bl.length cAC] rfl rfl 50 _ HPN.out (by kernel_rfl) rfl (by simp [Value.oneCell']) ?_; refine holdA ?_))
 refine ⟨?_⟩
 have b : Below w14.heap.size w14 (w15.setRow g18 #[.int .i64 b1, .int .i64 b2, .int .i64 b3, .slice AC bl.length cAC]) := below_setRow HBN.out (Nat.le_of_eq HGN.out.symm) _
 have HX18 := hd (setRow_heap w15 g18 _ #[.int .i64 b1, .int .i64 b2, .int .i64 b3, .slice AC bl.length cAC] 50 (0, 0) HPN.out)
 clear HPN HBN HGN
 generalize w15.setRow g18 #[.int .i64 b1, .int .i64 b2, .int .i64 b3, .slice AC bl.length cAC] = w16 at b HX18 ⊢
 replace HR := hd (Kd.C_below HR.out b)
 replace HP := hd (Kd.C_below HP.out b)
 replace K1 := hd (Kd.C_below K1.out b)
 replace K2 := hd (Kd.C_below K2.out b)
 replace KAX := hd (Kd.C_below KAX.out b)
 replace KAY := hd (Kd.C_below KAY.out b)
 replace KAB := hd (Kd.C_below KAB.out b)
 replace KAC := hd (Kd.C_below KAC.out b)
 replace HX5 := hd (blk_below HX5.out b)
 replace HX9 := hd (blk_below HX9.out b)
 replace HX11 := hd (blk_below HX11.out b)
 replace HX13 := hd (blk_below HX13.out b)
 replace HX15 := hd (blk_below HX15.out b)
 replace HB : Hd (Below w.heap.size w w16) := hd (below_then HB.out HB.out.size b)
 clear b
 have q0 := (blk_cell HX9.out 0).trans rfl
 have q1 := (blk_cell HX9.out 1).trans rfl
 have q2 := (blk_cell HX9.out 2).trans rfl
 have q3 := (blk_cell HX9.out 3).trans rfl
 go_wp2_with fail
 have hT := take_any a0 a1 a2 rq A1 c1 l k w16 K1.out HC1.out hak hrq hll F9.out
 rw [F6.out] at hT
 dsimp only at hT
 refine hT.mono ?_
 clear hT
 rintro e w17 ⟨AS, cAS, rfl, hcc, kk, b⟩
 have KAS := hd kk
 have HCAS := hd hcc
 clear kk hcc
 clear q0 q1 q2 q3
 replace HR := hd (Kd.C_below HR.out b)
 replace HP := hd (Kd.C_below HP.out b)
 replace K1 := hd (Kd.C_below K1.out b)
 replace K2 := hd (Kd.C_below K2.out b)
 replace KAX := hd (Kd.C_below KAX.out b)
 replace KAY := hd (Kd.C_below KAY.out b)
 replace KAB := hd (Kd.C_below KAB.out b)
 replace KAC := hd (Kd.C_below KAC.out b)
 replace HX5 := hd (blk_below HX5.out b)
 replace HX9 := hd (blk_below HX9.out b)
 replace HX11 := hd (blk_below HX11.out b)
 replace HX13 := hd (blk_below HX13.out b)
 replace HX15 := hd (blk_below HX15.out b)
 replace HX18 := hd (blk_below HX18.out b)
 replace HB : Hd (Below w.heap.size w w17) := hd (below_then HB.out HB.out.size b)
 clear b
 go_wp2_with (first | ((with_reducible refine gate_dst (N := 21) rfl ?_); refine box_event ?hg (N := 21) ?hd (cs := #[.int .i64 0, .int .i64 0, .int .i64 0, .slice none 0 0]) (t := 50) ?hr ?_; (case hd => rfl); (case hg => rfl); (case hr => first | (go_simp; done) | (go_simp; rfl)); intro g21 hg w18 hbox hb; have HGN := hd hg; have HPN := hd hbox; have HBN := hd hb; clear hg hbox hb) | ((with_reducible refine gate_store (t := 50) (p := 21) rfl ?_); refine wpList_store_row rfl 50 (.tmp 21) (.tmp 59) rfl g21 #[.int .i64 s1, .int .i64 s2, .int .i64 s3, .slice AS sl.length cAS] rfl rfl 50 _ HPN.out (by kernel_rfl) rfl (by simp [Value.oneCell']) ?_; refine holdA ?_))
 refine ⟨?_⟩
 have b : Below w17.heap.size w17 (w18.setRow g21 #[.int .i64 s1, .int .i64 s2, .int .i64 s3, .slice AS sl.length cAS]) := below_setRow HBN.out (Nat.le_of_eq HGN.out.symm) _
 have HX21 := hd (setRow_heap w18 g21 _ #[.int .i64 s1, .int .i64 s2, .int .i64 s3, .slice AS sl.length cAS] 50 (0, 0) HPN.out)
 clear HPN HBN HGN
 generalize w18.setRow g21 #[.int .i64 s1, .int .i64 s2, .int .i64 s3, .slice AS sl.length cAS] = w19 at b HX21 ⊢
 replace HR := hd (Kd.C_below HR.out b)
 replace HP := hd (Kd.C_below HP.out b)
 replace K1 := hd (Kd.C_below K1.out b)
 replace K2 := hd (Kd.C_below K2.out b)
 replace KAX := hd (Kd.C_below KAX.out b)
 replace KAY := hd (Kd.C_below KAY.out b)
 replace KAB := hd (Kd.C_below KAB.out b)
 replace KAC := hd (Kd.C_below KAC.out b)
 replace KAS := hd (Kd.C_below KAS.out b)
 replace HX5 := hd (blk_below HX5.out b)
 replace HX9 := hd (blk_below HX9.out b)
 replace HX11 := hd (blk_below HX11.out b)
 replace HX13 := hd (blk_below HX13.out b)
 replace HX15 := hd (blk_below HX15.out b)
 replace HX18 := hd (blk_below HX18.out b)
 replace HB : Hd (Below w.heap.size w w19) := hd (below_then HB.out HB.out.size b)
 clear b
 have q0 := (blk_cell HX5.out 0).trans rfl
 have q1 := (blk_cell HX5.out 1).trans rfl
 have q2 := (blk_cell HX5.out 2).trans rfl
 have q3 := (blk_cell HX5.out 3).trans rfl
 go_wp2_with fail
 refine (musterref09_Take.calls k a0 a1 a2 (fun q => q < w19.heap.size) A c l rq s1 s2 s3 sl sw se w19 (Kd.V_mk hc0 (Kd.C_F k70_heap HR.out)) F7.out).mono ?_
 rintro e w20 ⟨v, rfl, r, b⟩
 obtain ⟨AT, cAT, rfl, hcc, kk⟩ := Kd.N_reads r
 have KAT := hd kk
 have HCAT := hd hcc
 clear r kk hcc
 clear q0 q1 q2 q3
 replace HR := hd (Kd.C_below HR.out b)
 replace HP := hd (Kd.C_below HP.out b)
 replace K1 := hd (Kd.C_below K1.out b)
 replace K2 := hd (Kd.C_below K2.out b)
 replace KAX := hd (Kd.C_below KAX.out b)
 replace KAY := hd (Kd.C_below KAY.out b)
 replace KAB := hd (Kd.C_below KAB.out b)
 replace KAC := hd (Kd.C_below KAC.out b)
 replace KAS := hd (Kd.C_below KAS.out b)
 replace HX5 := hd (blk_below HX5.out b)
 replace HX9 := hd (blk_below HX9.out b)
 replace HX11 := hd (blk_below HX11.out b)
 replace HX13 := hd (blk_below HX13.out b)
 replace HX15 := hd (blk_below HX15.out b)
 replace HX18 := hd (blk_below HX18.out b)
 replace HX21 := hd (blk_below HX21.out b)
 replace HB : Hd (Below w.heap.size w w20) := hd (below_then HB.out HB.out.size b)
 clear b
 go_wp2_with (first | ((with_reducible refine gate_dst (N := 24) rfl ?_); refine box_event ?hg (N := 24) ?hd (cs := #[.int .i64 0, .int .i64 0, .int .i64 0, .slice none 0 0]) (t := 50) ?hr ?_; (case hd => rfl); (case hg => rfl); (case hr => first | (go_simp; done) | (go_simp; rfl)); intro g24 hg w21 hbox hb; have HGN := hd hg; have HPN := hd hbox; have HBN := hd hb; clear hg hbox hb) | ((with_reducible refine gate_store (t := 50) (p := 24) rfl ?_); refine wpList_store_row rfl 50 (.tmp 24) (.tmp 66) rfl g24 #[.int .i64 s1, .int .i64 s2, .int .i64 s3, .slice AT sl.length cAT] rfl rfl 50 _ HPN.out (by kernel_rfl) rfl (by simp [Value.oneCell']) ?_; refine holdA ?_))
 refine ⟨?_⟩
 have b : Below w20.heap.size w20 (w21.setRow g24 #[.int .i64 s1, .int .i64 s2, .int .i64 s3, .slice AT sl.length cAT]) := below_setRow HBN.out (Nat.le_of_eq HGN.out.symm) _
 have HX24 := hd (setRow_heap w21 g24 _ #[.int .i64 s1, .int .i64 s2, .int .i64 s3, .slice AT sl.length cAT] 50 (0, 0) HPN.out)
 clear HPN HBN HGN
 generalize w21.setRow g24 #[.int .i64 s1, .int .i64 s2, .int .i64 s3, .slice AT sl.length cAT] = w22 at b HX24 ⊢
 replace HR := hd (Kd.C_below HR.out b)
 replace HP := hd (Kd.C_below HP.out b)
 replace K1 := hd (Kd.C_below K1.out b)
 replace K2 := hd (Kd.C_below K2.out b)
 replace KAX := hd (Kd.C_below KAX.out b)
 replace KAY := hd (Kd.C_below KAY.out b)
 replace KAB := hd (Kd.C_below KAB.out b)
 replace KAC := hd (Kd.C_below KAC.out b)
 replace KAS := hd (Kd.C_below KAS.out b)
 replace KAT := hd (Kd.C_below KAT.out b)
 replace HX5 := hd (blk_below HX5.out b)
 replace HX9 := hd (blk_below HX9.out b)
 replace HX11 := hd (blk_below HX11.out b)
 replace HX13 := hd (blk_below HX13.out b)
 replace HX15 := hd (blk_below HX15.out b)
 replace HX18 := hd (blk_below HX18.out b)
 replace HX21 := hd (blk_below HX21.out b)
 replace HB : Hd (Below w.heap.size w w22) := hd (below_then HB.out HB.out.size b)
 clear b
 go_wp2_with fail
 have b : Below w22.heap.size w22 w22.drew := below_drew1 (Below.refl _ _)
 replace HR := hd (Kd.C_below HR.out b)
 replace HP := hd (Kd.C_below HP.out b)
 replace K1 := hd (Kd.C_below K1.out b)
 replace K2 := hd (Kd.C_below K2.out b)
 replace KAX := hd (Kd.C_below KAX.out b)
 replace KAY := hd (Kd.C_below KAY.out b)
 replace KAB := hd (Kd.C_below KAB.out b)
 replace KAC := hd (Kd.C_below KAC.out b)
 replace KAS := hd (Kd.C_below KAS.out b)
 replace KAT := hd (Kd.C_below KAT.out b)
 replace HX5 := hd (blk_below HX5.out b)
 replace HX9 := hd (blk_below HX9.out b)
 replace HX11 := hd (blk_below HX11.out b)
 replace HX13 := hd (blk_below HX13.out b)
 replace HX15 := hd (blk_below HX15.out b)
 replace HX18 := hd (blk_below HX18.out b)
 replace HX21 := hd (blk_below HX21.out b)
 replace HX24 := hd (blk_below HX24.out b)
 replace HB : Hd (Below w.heap.size w w22.drew) := hd (below_then HB.out HB.out.size b)
 clear b
 refine start_ (n := 59) (S := fun w' => w'.heap[w.heap.size]? = some (.cells #[.int .i64 a0, .int .i64 a1, .int .i64 a2, .slice A l.length c] 50 (0, 0)) ∧ w'.heap[g9]? = some (.cells #[.int .i64 a0, .int .i64 a1, .int .i64 a2, .slice A1 l.length c1] 50 (0, 0)) ∧ w'.heap[g11]? = some (.cells #[.int .i64 x1, .int .i64 x2, .int .i64 x3, .slice AX xl.length cAX] 50 (0, 0)) ∧ w'.heap[g13]? = some (.cells #[.int .i64 x1, .int .i64 x2, .int .i64 x3, .slice AY xl.length cAY] 50 (0, 0)) ∧ w'.heap[g15]? = some (.cells #[.int .i64 b1, .int .i64 b2, .int .i64 b3, .slice AB bl.length cAB] 50 (0, 0)) ∧ w'.heap[g18]? = some (.cells #[.int .i64 b1, .int .i64 b2, .int .i64 b3, .slice AC bl.length cAC] 50 (0, 0)) ∧ w'.heap[g21]? = some (.cells #[.int .i64 s1, .int .i64 s2, .int .i64 s3, .slice AS sl.length cAS] 50 (0, 0)) ∧ w'.heap[g24]? = some (.cells #[.int .i64 s1, .int .i64 s2, .int .i64 s3, .slice AT sl.length cAT] 50 (0, 0))) (ds := []) #[false, false, false, false, false, false, false, false, false, false, false, false, false, false, false, false, false, false, false, false, false, false, false, false, false, false, false, false, false, false, false, false, false, false, false, false, false, false, false, false, false, false, false, false, false, false, false, false, false, false, false, false, false, false, false, false, false, false, false] (by kernel_rfl) rfl rfl ⟨HX5.out, HX9.out, HX11.out, HX13.out, HX15.out, HX18.out, HX21.out, HX24.out⟩ (fun hHeld => ?_)
 refine with_tabW asks.tab8 asks.bits8 (fun HT_ HW_ => ?_)
 generalize w22.drew = w23 at HR HP K1 K2 KAX KAY KAB KAC KAS KAT HX5 HX9 HX11 HX13 HX15 HX18 HX21 HX24 HB hHeld ⊢
 refine take_ (i := 0) (N := (some 69)) (v := ?_) (a' := ?_) #[true, false, false, false, false, false, false, false, false, false, false, false, false, false, false, false, false, false, false, false, false, false, false, false, false, false, false, false, false, false, false, false, false, false, false, false, false, false, false, false, false, false, false, false, false, false, false, false, false, false, false, false, false, false, false, false, false, false, false] rfl rfl (take_ofW HT_.out HW_.out (by kernel_rfl)) (fun _ _ _ h => h) (Or.inl ⟨by rfl, ?_⟩) hHeld ?_ ?_
 rotate_left
 ·rintro w' ⟨h5, h9, h11, h13, h15, h18, h21, h24⟩
  have d0 := (blk_cell h9 0).trans rfl
  have d1 := (blk_cell h9 1).trans rfl
  have d2 := (blk_cell h9 2).trans rfl
  have d3 := (blk_cell h9 3).trans rfl
  go_simp
  with_reducible rfl
 rotate_left
 ·simp only [Act.put, List.setIfInBounds_toArray, List.set_cons_zero, List.set_cons_succ, i64_w, i32_w]
  rfl
 refine take_ (i := 2) (N := (some 71)) (v := ?_) (a' := ?_) #[true, false, true, false, false, false, false, false, false, false, false, false, false, false, false, false, false, false, false, false, false, false, false, false, false, false, false, false, false, false, false, false, false, false, false, false, false, false, false, false, false, false, false, false, false, false, false, false, false, false, false, false, false, false, false, false, false, false, false] rfl rfl (take_ofW HT_.out HW_.out (by kernel_rfl)) (fun _ _ _ h => h) (Or.inl ⟨by rfl, ?_⟩) hHeld ?_ ?_
 rotate_left
 ·rintro w' ⟨h5, h9, h11, h13, h15, h18, h21, h24⟩
  have d0 := (blk_cell h5 0).trans rfl
  have d1 := (blk_cell h5 1).trans rfl
  have d2 := (blk_cell h5 2).trans rfl
  have d3 := (blk_cell h5 3).trans rfl
  go_simp
  with_reducible rfl
 rotate_left
 ·simp only [Act.put, List.setIfInBounds_toArray, List.set_cons_zero, List.set_cons_succ, i64_w, i32_w]
  rfl
 refine one_ (i := 1) (N := (some 70)) #[true, true, true, false, false, false, false, false, false, false, false, false, false, false, false, false, false, false, false, false, false, false, false, false, false, false, false, false, false, false, false, false, false, false, false, false, false, false, false, false, false, false, false, false, false, false, false, false, false, false, false, false, false, false, false, false, false, false, false] rfl rfl (one_of HT_.out (by kernel_rfl)) (by decide) (fun K hK => ?_)
 refine goes_ Try.func24 (by kernel_rfl) rfl #[.agg #[.int .i64 a0, .int .i64 a1, .int .i64 a2, .slice A1 l.length c1]] (by rfl) rfl rfl (by (try simp only [List.map_toArray, List.map_cons, List.map_nil]); first | done | rfl) ?_
 refine (asker_any a0 a1 a2 A1 c1 l w23 K1.out HC1.out hak).mono ?_
 rintro e w24 ⟨rfl, b⟩
 refine ⟨_, rfl, ?_⟩
 replace HR := hd (Kd.C_below HR.out b)
 replace HP := hd (Kd.C_below HP.out b)
 replace K1 := hd (Kd.C_below K1.out b)
 replace K2 := hd (Kd.C_below K2.out b)
 replace KAX := hd (Kd.C_below KAX.out b)
 replace KAY := hd (Kd.C_below KAY.out b)
 replace KAB := hd (Kd.C_below KAB.out b)
 replace KAC := hd (Kd.C_below KAC.out b)
 replace KAS := hd (Kd.C_below KAS.out b)
 replace KAT := hd (Kd.C_below KAT.out b)
 replace HX5 := hd (blk_below HX5.out b)
 replace HX9 := hd (blk_below HX9.out b)
 replace HX11 := hd (blk_below HX11.out b)
 replace HX13 := hd (blk_below HX13.out b)
 replace HX15 := hd (blk_below HX15.out b)
 replace HX18 := hd (blk_below HX18.out b)
 replace HX21 := hd (blk_below HX21.out b)
 replace HX24 := hd (blk_below HX24.out b)
 replace HB : Hd (Below w.heap.size w w24) := hd (below_then HB.out HB.out.size b)
 clear b
 have hS2 : w24.heap[w.heap.size]? = some (.cells #[.int .i64 a0, .int .i64 a1, .int .i64 a2, .slice A l.length c] 50 (0, 0)) ∧ w24.heap[g9]? = some (.cells #[.int .i64 a0, .int .i64 a1, .int .i64 a2, .slice A1 l.length c1] 50 (0, 0)) ∧ w24.heap[g11]? = some (.cells #[.int .i64 x1, .int .i64 x2, .int .i64 x3, .slice AX xl.length cAX] 50 (0, 0)) ∧ w24.heap[g13]? = some (.cells #[.int .i64 x1, .int .i64 x2, .int .i64 x3, .slice AY xl.length cAY] 50 (0, 0)) ∧ w24.heap[g15]? = some (.cells #[.int .i64 b1, .int .i64 b2, .int .i64 b3, .slice AB bl.length cAB] 50 (0, 0)) ∧ w24.heap[g18]? = some (.cells #[.int .i64 b1, .int .i64 b2, .int .i64 b3, .slice AC bl.length cAC] 50 (0, 0)) ∧ w24.heap[g21]? = some (.cells #[.int .i64 s1, .int .i64 s2, .int .i64 s3, .slice AS sl.length cAS] 50 (0, 0)) ∧ w24.heap[g24]? = some (.cells #[.int .i64 s1, .int .i64 s2, .int .i64 s3, .slice AT sl.length cAT] 50 (0, 0)) := ⟨HX5.out, HX9.out, HX11.out, HX13.out, HX15.out, HX18.out, HX21.out, HX24.out⟩
 refine hK.out _ _ hS2 (fun hHeld => ?_)
 clear hK K hS2
 refine norm_ (a' := ?_) ?_ ?_
 rotate_left
 ·show Act.put _ (some 70) _ = _
  simp only [Act.put, List.setIfInBounds_toArray, List.set_cons_zero, List.set_cons_succ, i64_w, i32_w]
  rfl
 refine one_ (i := 3) (N := (some 72)) #[true, true, true, true, false, false, false, false, false, false, false, false, false, false, false, false, false, false, false, false, false, false, false, false, false, false, false, false, false, false, false, false, false, false, false, false, false, false, false, false, false, false, false, false, false, false, false, false, false, false, false, false, false, false, false, false, false, false, false] rfl rfl (one_of HT_.out (by kernel_rfl)) (by decide) (fun K hK => ?_)
 refine goes_ Try.func29 (by kernel_rfl) rfl #[.agg #[.int .i64 a0, .int .i64 a1, .int .i64 a2, .slice A l.length c]] (by rfl) rfl rfl (by (try simp only [List.map_toArray, List.map_cons, List.map_nil]); first | done | rfl) ?_
 refine (musterref09_RightAsker.calls k a0 a1 a2 A c l rb w24 HR.out hc0 F10.out).mono ?_
 rintro e w25 ⟨rfl, b⟩
 refine ⟨_, rfl, ?_⟩
 replace HR := hd (Kd.C_below HR.out b)
 replace HP := hd (Kd.C_below HP.out b)
 replace K1 := hd (Kd.C_below K1.out b)
 replace K2 := hd (Kd.C_below K2.out b)
 replace KAX := hd (Kd.C_below KAX.out b)
 replace KAY := hd (Kd.C_below KAY.out b)
 replace KAB := hd (Kd.C_below KAB.out b)
 replace KAC := hd (Kd.C_below KAC.out b)
 replace KAS := hd (Kd.C_below KAS.out b)
 replace KAT := hd (Kd.C_below KAT.out b)
 replace HX5 := hd (blk_below HX5.out b)
 replace HX9 := hd (blk_below HX9.out b)
 replace HX11 := hd (blk_below HX11.out b)
 replace HX13 := hd (blk_below HX13.out b)
 replace HX15 := hd (blk_below HX15.out b)
 replace HX18 := hd (blk_below HX18.out b)
 replace HX21 := hd (blk_below HX21.out b)
 replace HX24 := hd (blk_below HX24.out b)
 replace HB : Hd (Below w.heap.size w w25) := hd (below_then HB.out HB.out.size b)
 clear b
 have hS2 : w25.heap[w.heap.size]? = some (.cells #[.int .i64 a0, .int .i64 a1, .int .i64 a2, .slice A l.length c] 50 (0, 0)) ∧ w25.heap[g9]? = some (.cells #[.int .i64 a0, .int .i64 a1, .int .i64 a2, .slice A1 l.length c1] 50 (0, 0)) ∧ w25.heap[g11]? = some (.cells #[.int .i64 x1, .int .i64 x2, .int .i64 x3, .slice AX xl.length cAX] 50 (0, 0)) ∧ w25.heap[g13]? = some (.cells #[.int .i64 x1, .int .i64 x2, .int .i64 x3, .slice AY xl.length cAY] 50 (0, 0)) ∧ w25.heap[g15]? = some (.cells #[.int .i64 b1, .int .i64 b2, .int .i64 b3, .slice AB bl.length cAB] 50 (0, 0)) ∧ w25.heap[g18]? = some (.cells #[.int .i64 b1, .int .i64 b2, .int .i64 b3, .slice AC bl.length cAC] 50 (0, 0)) ∧ w25.heap[g21]? = some (.cells #[.int .i64 s1, .int .i64 s2, .int .i64 s3, .slice AS sl.length cAS] 50 (0, 0)) ∧ w25.heap[g24]? = some (.cells #[.int .i64 s1, .int .i64 s2, .int .i64 s3, .slice AT sl.length cAT] 50 (0, 0)) := ⟨HX5.out, HX9.out, HX11.out, HX13.out, HX15.out, HX18.out, HX21.out, HX24.out⟩
 refine hK.out _ _ hS2 (fun hHeld => ?_)
 clear hK K hS2
 refine norm_ (a' := ?_) ?_ ?_
 rotate_left
 ·show Act.put _ (some 72) _ = _
  simp only [Act.put, List.setIfInBounds_toArray, List.set_cons_zero, List.set_cons_succ, i64_w, i32_w]
  rfl
 rw [F11.out]
 refine pure_ (i := 4) (N := (some 73)) (v := ?_) (a' := ?_) #[true, true, true, true, true, false, false, false, false, false, false, false, false, false, false, false, false, false, false, false, false, false, false, false, false, false, false, false, false, false, false, false, false, false, false, false, false, false, false, false, false, false, false, false, false, false, false, false, false, false, false, false, false, false, false, false, false, false, false] rfl rfl (any_of HT_.out (by kernel_rfl)) (fun _ _ _ h => h) (Or.inl ⟨by rfl, ?_⟩) ?_ ?_
 rotate_left
 ·intro w'
  go_simp
  with_reducible rfl
 rotate_left
 ·simp only [Act.put, List.setIfInBounds_toArray, List.set_cons_zero, List.set_cons_succ, i64_w, i32_w]
  rfl
 refine pure_ (i := 5) (N := (some 74)) (v := ?_) (a' := ?_) #[true, true, true, true, true, true, false, false, false, false, false, false, false, false, false, false, false, false, false, false, false, false, false, false, false, false, false, false, false, false, false, false, false, false, false, false, false, false, false, false, false, false, false, false, false, false, false, false, false, false, false, false, false, false, false, false, false, false, false] rfl rfl (any_of HT_.out (by kernel_rfl)) (fun _ _ _ h => h) (Or.inl ⟨by rfl, ?_⟩) ?_ ?_
 rotate_left
 ·intro w'
  go_simp
  with_reducible rfl
 rotate_left
 ·simp only [Act.put, List.setIfInBounds_toArray, List.set_cons_zero, List.set_cons_succ, i64_w, i32_w]
  rfl
 refine pure_ (i := 6) (N := (some 75)) (v := ?_) (a' := ?_) #[true, true, true, true, true, true, true, false, false, false, false, false, false, false, false, false, false, false, false, false, false, false, false, false, false, false, false, false, false, false, false, false, false, false, false, false, false, false, false, false, false, false, false, false, false, false, false, false, false, false, false, false, false, false, false, false, false, false, false] rfl rfl (any_of HT_.out (by kernel_rfl)) (fun _ _ _ h => h) (Or.inl ⟨by rfl, ?_⟩) ?_ ?_
 rotate_left
 ·intro w'
  go_simp
  with_reducible rfl
 rotate_left
 ·simp only [Act.put, List.setIfInBounds_toArray, List.set_cons_zero, List.set_cons_succ, i64_w, i32_w]
  rfl
 refine pure_ (i := 7) (N := (some 76)) (v := ?_) (a' := ?_) #[true, true, true, true, true, true, true, true, false, false, false, false, false, false, false, false, false, false, false, false, false, false, false, false, false, false, false, false, false, false, false, false, false, false, false, false, false, false, false, false, false, false, false, false, false, false, false, false, false, false, false, false, false, false, false, false, false, false, false] rfl rfl (any_of HT_.out (by kernel_rfl)) (fun _ _ _ h => h) (Or.inl ⟨by rfl, ?_⟩) ?_ ?_
 rotate_left
 ·intro w'
  go_simp
  with_reducible rfl
 rotate_left
 ·simp only [Act.put, List.setIfInBounds_toArray, List.set_cons_zero, List.set_cons_succ, i64_w, i32_w]
  rfl
 refine pure_ (i := 8) (N := (some 77)) (v := ?_) (a' := ?_) #[true, true, true, true, true, true, true, true, true, false, false, false, false, false, false, false, false, false, false, false, false, false, false, false, false, false, false, false, false, false, false, false, false, false, false, false, false, false, false, false, false, false, false, false, false, false, false, false, false, false, false, false, false, false, false, false, false, false, false] rfl rfl (any_of HT_.out (by kernel_rfl)) (fun _ _ _ h => h) (Or.inl ⟨by rfl, ?_⟩) ?_ ?_
 rotate_left
 ·intro w'
  go_simp
  with_reducible rfl
 rotate_left
 ·simp only [Act.put, List.setIfInBounds_toArray, List.set_cons_zero, List.set_cons_succ, i64_w, i32_w]
  rfl
 refine pure_ (i := 9) (N := (some 78)) (v := ?_) (a' := ?_) #[true, true, true, true, true, true, true, true, true, true, false, false, false, false, false, false, false, false, false, false, false, false, false, false, false, false, false, false, false, false, false, false, false, false, false, false, false, false, false, false, false, false, false, false, false, false, false, false, false, false, false, false, false, false, false, false, false, false, false] rfl rfl (any_of HT_.out (by kernel_rfl)) (fun _ _ _ h => h) (Or.inl ⟨by rfl, ?_⟩) ?_ ?_
 rotate_left
 ·intro w'
  go_simp
  with_reducible rfl
 rotate_left
 ·simp only [Act.put, List.setIfInBounds_toArray, List.set_cons_zero, List.set_cons_succ, i64_w, i32_w]
  rfl
 refine pure_ (i := 10) (N := (some 79)) (v := ?_) (a' := ?_) #[true, true, true, true, true, true, true, true, true, true, true, false, false, false, false, false, false, false, false, false, false, false, false, false, false, false, false, false, false, false, false, false, false, false, false, false, false, false, false, false, false, false, false, false, false, false, false, false, false, false, false, false, false, false, false, false, false, false, false] rfl rfl (any_of HT_.out (by kernel_rfl)) (fun _ _ _ h => h) (Or.inl ⟨by rfl, ?_⟩) ?_ ?_
 rotate_left
 ·intro w'
  go_simp
  with_reducible rfl
 rotate_left
 ·simp only [Act.put, List.setIfInBounds_toArray, List.set_cons_zero, List.set_cons_succ, i64_w, i32_w]
  rfl
 refine take_ (i := 11) (N := (some 80)) (v := ?_) (a' := ?_) #[true, true, true, true, true, true, true, true, true, true, true, true, false, false, false, false, false, false, false, false, false, false, false, false, false, false, false, false, false, false, false, false, false, false, false, false, false, false, false, false, false, false, false, false, false, false, false, false, false, false, false, false, false, false, false, false, false, false, false] rfl rfl (take_ofW HT_.out HW_.out (by kernel_rfl)) (fun _ _ _ h => h) (Or.inl ⟨by rfl, ?_⟩) hHeld ?_ ?_
 rotate_left
 ·rintro w' ⟨h5, h9, h11, h13, h15, h18, h21, h24⟩
  have d0 := (blk_cell h11 0).trans rfl
  have d1 := (blk_cell h11 1).trans rfl
  have d2 := (blk_cell h11 2).trans rfl
  have d3 := (blk_cell h11 3).trans rfl
  go_simp
  with_reducible rfl
 rotate_left
 ·simp only [Act.put, List.setIfInBounds_toArray, List.set_cons_zero, List.set_cons_succ, i64_w, i32_w]
  rfl
 refine take_ (i := 12) (N := (some 81)) (v := ?_) (a' := ?_) #[true, true, true, true, true, true, true, true, true, true, true, true, true, false, false, false, false, false, false, false, false, false, false, false, false, false, false, false, false, false, false, false, false, false, false, false, false, false, false, false, false, false, false, false, false, false, false, false, false, false, false, false, false, false, false, false, false, false, false] rfl rfl (take_ofW HT_.out HW_.out (by kernel_rfl)) (fun _ _ _ h => h) (Or.inl ⟨by rfl, ?_⟩) hHeld ?_ ?_
 rotate_left
 ·rintro w' ⟨h5, h9, h11, h13, h15, h18, h21, h24⟩
  have d0 := (blk_cell h13 0).trans rfl
  have d1 := (blk_cell h13 1).trans rfl
  have d2 := (blk_cell h13 2).trans rfl
  have d3 := (blk_cell h13 3).trans rfl
  go_simp
  with_reducible rfl
 rotate_left
 ·simp only [Act.put, List.setIfInBounds_toArray, List.set_cons_zero, List.set_cons_succ, i64_w, i32_w]
  rfl
 refine one_ (i := 13) (N := (some 82)) #[true, true, true, true, true, true, true, true, true, true, true, true, true, true, false, false, false, false, false, false, false, false, false, false, false, false, false, false, false, false, false, false, false, false, false, false, false, false, false, false, false, false, false, false, false, false, false, false, false, false, false, false, false, false, false, false, false, false, false] rfl rfl (one_of HT_.out (by kernel_rfl)) (by decide) (fun K hK => ?_)
 refine goes_ Try.func30 (by kernel_rfl) rfl #[.agg #[.int .i64 x1, .int .i64 x2, .int .i64 x3, .slice AX xl.length cAX], .agg #[.int .i64 x1, .int .i64 x2, .int .i64 x3, .slice AY xl.length cAY]] (by rfl) rfl rfl (by (try simp only [List.map_toArray, List.map_cons, List.map_nil]); first | done | rfl) ?_
 refine (musterlow_SameAsker.calls k x1 x2 x3 AX cAX xl x1 x2 x3 AY cAY xl true w25 KAX.out HCAX.out KAY.out HCAY.out F12.out).mono ?_
 rintro e w26 ⟨rfl, b⟩
 refine ⟨_, rfl, ?_⟩
 replace HR := hd (Kd.C_below HR.out b)
 replace HP := hd (Kd.C_below HP.out b)
 replace K1 := hd (Kd.C_below K1.out b)
 replace K2 := hd (Kd.C_below K2.out b)
 replace KAX := hd (Kd.C_below KAX.out b)
 replace KAY := hd (Kd.C_below KAY.out b)
 replace KAB := hd (Kd.C_below KAB.out b)
 replace KAC := hd (Kd.C_below KAC.out b)
 replace KAS := hd (Kd.C_below KAS.out b)
 replace KAT := hd (Kd.C_below KAT.out b)
 replace HX5 := hd (blk_below HX5.out b)
 replace HX9 := hd (blk_below HX9.out b)
 replace HX11 := hd (blk_below HX11.out b)
 replace HX13 := hd (blk_below HX13.out b)
 replace HX15 := hd (blk_below HX15.out b)
 replace HX18 := hd (blk_below HX18.out b)
 replace HX21 := hd (blk_below HX21.out b)
 replace HX24 := hd (blk_below HX24.out b)
 replace HB : Hd (Below w.heap.size w w26) := hd (below_then HB.out HB.out.size b)
 clear b
 have hS2 : w26.heap[w.heap.size]? = some (.cells #[.int .i64 a0, .int .i64 a1, .int .i64 a2, .slice A l.length c] 50 (0, 0)) ∧ w26.heap[g9]? = some (.cells #[.int .i64 a0, .int .i64 a1, .int .i64 a2, .slice A1 l.length c1] 50 (0, 0)) ∧ w26.heap[g11]? = some (.cells #[.int .i64 x1, .int .i64 x2, .int .i64 x3, .slice AX xl.length cAX] 50 (0, 0)) ∧ w26.heap[g13]? = some (.cells #[.int .i64 x1, .int .i64 x2, .int .i64 x3, .slice AY xl.length cAY] 50 (0, 0)) ∧ w26.heap[g15]? = some (.cells #[.int .i64 b1, .int .i64 b2, .int .i64 b3, .slice AB bl.length cAB] 50 (0, 0)) ∧ w26.heap[g18]? = some (.cells #[.int .i64 b1, .int .i64 b2, .int .i64 b3, .slice AC bl.length cAC] 50 (0, 0)) ∧ w26.heap[g21]? = some (.cells #[.int .i64 s1, .int .i64 s2, .int .i64 s3, .slice AS sl.length cAS] 50 (0, 0)) ∧ w26.heap[g24]? = some (.cells #[.int .i64 s1, .int .i64 s2, .int .i64 s3, .slice AT sl.length cAT] 50 (0, 0)) := ⟨HX5.out, HX9.out, HX11.out, HX13.out, HX15.out, HX18.out, HX21.out, HX24.out⟩
 refine hK.out _ _ hS2 (fun hHeld => ?_)
 clear hK K hS2
 refine norm_ (a' := ?_) ?_ ?_
 rotate_left
 ·show Act.put _ (some 82) _ = _
  simp only [Act.put, List.setIfInBounds_toArray, List.set_cons_zero, List.set_cons_succ, i64_w, i32_w]
  rfl
 refine pure_ (i := 14) (N := (some 83)) (v := ?_) (a' := ?_) #[true, true, true, true, true, true, true, true, true, true, true, true, true, true, true, false, false, false, false, false, false, false, false, false, false, false, false, false, false, false, false, false, false, false, false, false, false, false, false, false, false, false, false, false, false, false, false, false, false, false, false, false, false, false, false, false, false, false, false] rfl rfl (any_of HT_.out (by kernel_rfl)) (fun _ _ _ h => h) (Or.inl ⟨by rfl, ?_⟩) ?_ ?_
 rotate_left
 ·intro w'
  go_simp
  with_reducible rfl
 rotate_left
 ·simp only [Act.put, List.setIfInBounds_toArray, List.set_cons_zero, List.set_cons_succ, i64_w, i32_w]
  rfl
 refine pure_ (i := 15) (N := (some 84)) (v := ?_) (a' := ?_) #[true, true, true, true, true, true, true, true, true, true, true, true, true, true, true, true, false, false, false, false, false, false, false, false, false, false, false, false, false, false, false, false, false, false, false, false, false, false, false, false, false, false, false, false, false, false, false, false, false, false, false, false, false, false, false, false, false, false, false] rfl rfl (any_of HT_.out (by kernel_rfl)) (fun _ _ _ h => h) (Or.inl ⟨by rfl, ?_⟩) ?_ ?_
 rotate_left
 ·intro w'
  go_simp
  with_reducible rfl
 rotate_left
 ·simp only [Act.put, List.setIfInBounds_toArray, List.set_cons_zero, List.set_cons_succ, i64_w, i32_w]
  rfl
 refine pure_ (i := 16) (N := (some 85)) (v := ?_) (a' := ?_) #[true, true, true, true, true, true, true, true, true, true, true, true, true, true, true, true, true, false, false, false, false, false, false, false, false, false, false, false, false, false, false, false, false, false, false, false, false, false, false, false, false, false, false, false, false, false, false, false, false, false, false, false, false, false, false, false, false, false, false] rfl rfl (any_of HT_.out (by kernel_rfl)) (fun _ _ _ h => h) (Or.inl ⟨by rfl, ?_⟩) ?_ ?_
 rotate_left
 ·intro w'
  go_simp
  with_reducible rfl
 rotate_left
 ·simp only [Act.put, List.setIfInBounds_toArray, List.set_cons_zero, List.set_cons_succ, i64_w, i32_w]
  rfl
 refine pure_ (i := 17) (N := (some 86)) (v := ?_) (a' := ?_) #[true, true, true, true, true, true, true, true, true, true, true, true, true, true, true, true, true, true, false, false, false, false, false, false, false, false, false, false, false, false, false, false, false, false, false, false, false, false, false, false, false, false, false, false, false, false, false, false, false, false, false, false, false, false, false, false, false, false, false] rfl rfl (any_of HT_.out (by kernel_rfl)) (fun _ _ _ h => h) (Or.inl ⟨by rfl, ?_⟩) ?_ ?_
 rotate_left
 ·intro w'
  go_simp
  with_reducible rfl
 rotate_left
 ·simp only [Act.put, List.setIfInBounds_toArray, List.set_cons_zero, List.set_cons_succ, i64_w, i32_w]
  rfl
 refine pure_ (i := 18) (N := (some 87)) (v := ?_) (a' := ?_) #[true, true, true, true, true, true, true, true, true, true, true, true, true, true, true, true, true, true, true, false, false, false, false, false, false, false, false, false, false, false, false, false, false, false, false, false, false, false, false, false, false, false, false, false, false, false, false, false, false, false, false, false, false, false, false, false, false, false, false] rfl rfl (any_of HT_.out (by kernel_rfl)) (fun _ _ _ h => h) (Or.inl ⟨by rfl, ?_⟩) ?_ ?_
 rotate_left
 ·intro w'
  go_simp
  with_reducible rfl
 rotate_left
 ·simp only [Act.put, List.setIfInBounds_toArray, List.set_cons_zero, List.set_cons_succ, i64_w, i32_w]
  rfl
 refine pure_ (i := 19) (N := (some 88)) (v := ?_) (a' := ?_) #[true, true, true, true, true, true, true, true, true, true, true, true, true, true, true, true, true, true, true, true, false, false, false, false, false, false, false, false, false, false, false, false, false, false, false, false, false, false, false, false, false, false, false, false, false, false, false, false, false, false, false, false, false, false, false, false, false, false, false] rfl rfl (any_of HT_.out (by kernel_rfl)) (fun _ _ _ h => h) (Or.inl ⟨by rfl, ?_⟩) ?_ ?_
 rotate_left
 ·intro w'
  go_simp
  with_reducible rfl
 rotate_left
 ·simp only [Act.put, List.setIfInBounds_toArray, List.set_cons_zero, List.set_cons_succ, i64_w, i32_w]
  rfl
 refine pure_ (i := 20) (N := (some 89)) (v := ?_) (a' := ?_) #[true, true, true, true, true, true, true, true, true, true, true, true, true, true, true, true, true, true, true, true, true, false, false, false, false, false, false, false, false, false, false, false, false, false, false, false, false, false, false, false, false, false, false, false, false, false, false, false, false, false, false, false, false, false, false, false, false, false, false] rfl rfl (any_of HT_.out (by kernel_rfl)) (fun _ _ _ h => h) (Or.inl ⟨by rfl, ?_⟩) ?_ ?_
 rotate_left
 ·intro w'
  go_simp
  with_reducible rfl
 rotate_left
 ·simp only [Act.put, List.setIfInBounds_toArray, List.set_cons_zero, List.set_cons_succ, i64_w, i32_w]
  rfl
 refine pure_ (i := 21) (N := (some 90)) (v := ?_) (a' := ?_) #[true, true, true, true, true, true, true, true, true, true, true, true, true, true, true, true, true, true, true, true, true, true, false, false, false, false, false, false, false, false, false, false, false, false, false, false, false, false, false, false, false, false, false, false, false, false, false, false, false, false, false, false, false, false, false, false, false, false, false] rfl rfl (any_of HT_.out (by kernel_rfl)) (fun _ _ _ h => h) (Or.inl ⟨by rfl, ?_⟩) ?_ ?_
 rotate_left
 ·intro w'
  go_simp
  with_reducible rfl
 rotate_left
 ·simp only [Act.put, List.setIfInBounds_toArray, List.set_cons_zero, List.set_cons_succ, i64_w, i32_w]
  rfl
 refine pure_ (i := 22) (N := (some 91)) (v := ?_) (a' := ?_) #[true, true, true, true, true, true, true, true, true, true, true, true, true, true, true, true, true, true, true, true, true, true, true, false, false, false, false, false, false, false, false, false, false, false, false, false, false, false, false, false, false, false, false, false, false, false, false, false, false, false, false, false, false, false, false, false, false, false, false] rfl rfl (any_of HT_.out (by kernel_rfl)) (fun _ _ _ h => h) (Or.inl ⟨by rfl, ?_⟩) ?_ ?_
 rotate_left
 ·intro w'
  go_simp
  with_reducible rfl
 rotate_left
 ·simp only [Act.put, List.setIfInBounds_toArray, List.set_cons_zero, List.set_cons_succ, i64_w, i32_w]
  rfl
 refine pure_ (i := 23) (N := (some 92)) (v := ?_) (a' := ?_) #[true, true, true, true, true, true, true, true, true, true, true, true, true, true, true, true, true, true, true, true, true, true, true, true, false, false, false, false, false, false, false, false, false, false, false, false, false, false, false, false, false, false, false, false, false, false, false, false, false, false, false, false, false, false, false, false, false, false, false] rfl rfl (any_of HT_.out (by kernel_rfl)) (fun _ _ _ h => h) (Or.inl ⟨by rfl, ?_⟩) ?_ ?_
 rotate_left
 ·intro w'
  go_simp
  with_reducible rfl
 rotate_left
 ·simp only [Act.put, List.setIfInBounds_toArray, List.set_cons_zero, List.set_cons_succ, i64_w, i32_w]
  rfl
 refine pure_ (i := 24) (N := (some 93)) (v := ?_) (a' := ?_) #[true, true, true, true, true, true, true, true, true, true, true, true, true, true, true, true, true, true, true, true, true, true, true, true, true, false, false, false, false, false, false, false, false, false, false, false, false, false, false, false, false, false, false, false, false, false, false, false, false, false, false, false, false, false, false, false, false, false, false] rfl rfl (any_of HT_.out (by kernel_rfl)) (fun _ _ _ h => h) (Or.inl ⟨by rfl, ?_⟩) ?_ ?_
 rotate_left
 ·intro w'
  go_simp
  with_reducible rfl
 rotate_left
 ·simp only [Act.put, List.setIfInBounds_toArray, List.set_cons_zero, List.set_cons_succ, i64_w, i32_w]
  rfl
 refine pure_ (i := 25) (N := (some 94)) (v := ?_) (a' := ?_) #[true, true, true, true, true, true, true, true, true, true, true, true, true, true, true, true, true, true, true, true, true, true, true, true, true, true, false, false, false, false, false, false, false, false, false, false, false, false, false, false, false, false, false, false, false, false, false, false, false, false, false, false, false, false, false, false, false, false, false] rfl rfl (any_of HT_.out (by kernel_rfl)) (fun _ _ _ h => h) (Or.inl ⟨by rfl, ?_⟩) ?_ ?_
 rotate_left
 ·intro w'
  go_simp
  with_reducible rfl
 rotate_left
 ·simp only [Act.put, List.setIfInBounds_toArray, List.set_cons_zero, List.set_cons_succ, i64_w, i32_w]
  rfl
 refine take_ (i := 26) (N := (some 95)) (v := ?_) (a' := ?_) #[true, true, true, true, true, true, true, true, true, true, true, true, true, true, true, true, true, true, true, true, true, true, true, true, true, true, true, false, false, false, false, false, false, false, false, false, false, false, false, false, false, false, false, false, false, false, false, false, false, false, false, false, false, false, false, false, false, false, false] rfl rfl (take_ofW HT_.out HW_.out (by kernel_rfl)) (fun _ _ _ h => h) (Or.inl ⟨by rfl, ?_⟩) hHeld ?_ ?_
 rotate_left
 ·rintro w' ⟨h5, h9, h11, h13, h15, h18, h21, h24⟩
  have d0 := (blk_cell h15 0).trans rfl
  have d1 := (blk_cell h15 1).trans rfl
  have d2 := (blk_cell h15 2).trans rfl
  have d3 := (blk_cell h15 3).trans rfl
  go_simp
  with_reducible rfl
 rotate_left
 ·simp only [Act.put, List.setIfInBounds_toArray, List.set_cons_zero, List.set_cons_succ, i64_w, i32_w]
  rfl
 refine take_ (i := 27) (N := (some 96)) (v := ?_) (a' := ?_) #[true, true, true, true, true, true, true, true, true, true, true, true, true, true, true, true, true, true, true, true, true, true, true, true, true, true, true, true, false, false, false, false, false, false, false, false, false, false, false, false, false, false, false, false, false, false, false, false, false, false, false, false, false, false, false, false, false, false, false] rfl rfl (take_ofW HT_.out HW_.out (by kernel_rfl)) (fun _ _ _ h => h) (Or.inl ⟨by rfl, ?_⟩) hHeld ?_ ?_
 rotate_left
 ·rintro w' ⟨h5, h9, h11, h13, h15, h18, h21, h24⟩
  have d0 := (blk_cell h18 0).trans rfl
  have d1 := (blk_cell h18 1).trans rfl
  have d2 := (blk_cell h18 2).trans rfl
  have d3 := (blk_cell h18 3).trans rfl
  go_simp
  with_reducible rfl
 rotate_left
 ·simp only [Act.put, List.setIfInBounds_toArray, List.set_cons_zero, List.set_cons_succ, i64_w, i32_w]
  rfl
 refine one_ (i := 28) (N := (some 97)) #[true, true, true, true, true, true, true, true, true, true, true, true, true, true, true, true, true, true, true, true, true, true, true, true, true, true, true, true, true, false, false, false, false, false, false, false, false, false, false, false, false, false, false, false, false, false, false, false, false, false, false, false, false, false, false, false, false, false, false] rfl rfl (one_of HT_.out (by kernel_rfl)) (by decide) (fun K hK => ?_)
 refine goes_ Try.func30 (by kernel_rfl) rfl #[.agg #[.int .i64 b1, .int .i64 b2, .int .i64 b3, .slice AB bl.length cAB], .agg #[.int .i64 b1, .int .i64 b2, .int .i64 b3, .slice AC bl.length cAC]] (by rfl) rfl rfl (by (try simp only [List.map_toArray, List.map_cons, List.map_nil]); first | done | rfl) ?_
 refine (musterlow_SameAsker.calls k b1 b2 b3 AB cAB bl b1 b2 b3 AC cAC bl true w26 KAB.out HCAB.out KAC.out HCAC.out F13.out).mono ?_
 rintro e w27 ⟨rfl, b⟩
 refine ⟨_, rfl, ?_⟩
 replace HR := hd (Kd.C_below HR.out b)
 replace HP := hd (Kd.C_below HP.out b)
 replace K1 := hd (Kd.C_below K1.out b)
 replace K2 := hd (Kd.C_below K2.out b)
 replace KAX := hd (Kd.C_below KAX.out b)
 replace KAY := hd (Kd.C_below KAY.out b)
 replace KAB := hd (Kd.C_below KAB.out b)
 replace KAC := hd (Kd.C_below KAC.out b)
 replace KAS := hd (Kd.C_below KAS.out b)
 replace KAT := hd (Kd.C_below KAT.out b)
 replace HX5 := hd (blk_below HX5.out b)
 replace HX9 := hd (blk_below HX9.out b)
 replace HX11 := hd (blk_below HX11.out b)
 replace HX13 := hd (blk_below HX13.out b)
 replace HX15 := hd (blk_below HX15.out b)
 replace HX18 := hd (blk_below HX18.out b)
 replace HX21 := hd (blk_below HX21.out b)
 replace HX24 := hd (blk_below HX24.out b)
 replace HB : Hd (Below w.heap.size w w27) := hd (below_then HB.out HB.out.size b)
 clear b
 have hS2 : w27.heap[w.heap.size]? = some (.cells #[.int .i64 a0, .int .i64 a1, .int .i64 a2, .slice A l.length c] 50 (0, 0)) ∧ w27.heap[g9]? = some (.cells #[.int .i64 a0, .int .i64 a1, .int .i64 a2, .slice A1 l.length c1] 50 (0, 0)) ∧ w27.heap[g11]? = some (.cells #[.int .i64 x1, .int .i64 x2, .int .i64 x3, .slice AX xl.length cAX] 50 (0, 0)) ∧ w27.heap[g13]? = some (.cells #[.int .i64 x1, .int .i64 x2, .int .i64 x3, .slice AY xl.length cAY] 50 (0, 0)) ∧ w27.heap[g15]? = some (.cells #[.int .i64 b1, .int .i64 b2, .int .i64 b3, .slice AB bl.length cAB] 50 (0, 0)) ∧ w27.heap[g18]? = some (.cells #[.int .i64 b1, .int .i64 b2, .int .i64 b3, .slice AC bl.length cAC] 50 (0, 0)) ∧ w27.heap[g21]? = some (.cells #[.int .i64 s1, .int .i64 s2, .int .i64 s3, .slice AS sl.length cAS] 50 (0, 0)) ∧ w27.heap[g24]? = some (.cells #[.int .i64 s1, .int .i64 s2, .int .i64 s3, .slice AT sl.length cAT] 50 (0, 0)) := ⟨HX5.out, HX9.out, HX11.out, HX13.out, HX15.out, HX18.out, HX21.out, HX24.out⟩
 refine hK.out _ _ hS2 (fun hHeld => ?_)
 clear hK K hS2
 refine norm_ (a' := ?_) ?_ ?_
 rotate_left
 ·show Act.put _ (some 97) _ = _
  simp only [Act.put, List.setIfInBounds_toArray, List.set_cons_zero, List.set_cons_succ, i64_w, i32_w]
  rfl
 refine pure_ (i := 29) (N := (some 98)) (v := ?_) (a' := ?_) #[true, true, true, true, true, true, true, true, true, true, true, true, true, true, true, true, true, true, true, true, true, true, true, true, true, true, true, true, true, true, false, false, false, false, false, false, false, false, false, false, false, false, false, false, false, false, false, false, false, false, false, false, false, false, false, false, false, false, false] rfl rfl (any_of HT_.out (by kernel_rfl)) (fun _ _ _ h => h) (Or.inl ⟨by rfl, ?_⟩) ?_ ?_
 rotate_left
 ·intro w'
  go_simp
  with_reducible rfl
 rotate_left
 ·simp only [Act.put, List.setIfInBounds_toArray, List.set_cons_zero, List.set_cons_succ, i64_w, i32_w]
  rfl
 refine pure_ (i := 30) (N := (some 99)) (v := ?_) (a' := ?_) #[true, true, true, true, true, true, true, true, true, true, true, true, true, true, true, true, true, true, true, true, true, true, true, true, true, true, true, true, true, true, true, false, false, false, false, false, false, false, false, false, false, false, false, false, false, false, false, false, false, false, false, false, false, false, false, false, false, false, false] rfl rfl (any_of HT_.out (by kernel_rfl)) (fun _ _ _ h => h) (Or.inl ⟨by rfl, ?_⟩) ?_ ?_
 rotate_left
 ·intro w'
  go_simp
  with_reducible rfl
 rotate_left
 ·simp only [Act.put, List.setIfInBounds_toArray, List.set_cons_zero, List.set_cons_succ, i64_w, i32_w]
  rfl
 refine pure_ (i := 31) (N := (some 100)) (v := ?_) (a' := ?_) #[true, true, true, true, true, true, true, true, true, true, true, true, true, true, true, true, true, true, true, true, true, true, true, true, true, true, true, true, true, true, true, true, false, false, false, false, false, false, false, false, false, false, false, false, false, false, false, false, false, false, false, false, false, false, false, false, false, false, false] rfl rfl (any_of HT_.out (by kernel_rfl)) (fun _ _ _ h => h) (Or.inl ⟨by rfl, ?_⟩) ?_ ?_
 rotate_left
 ·intro w'
  go_simp
  with_reducible rfl
 rotate_left
 ·simp only [Act.put, List.setIfInBounds_toArray, List.set_cons_zero, List.set_cons_succ, i64_w, i32_w]
  rfl
 refine pure_ (i := 32) (N := (some 101)) (v := ?_) (a' := ?_) #[true, true, true, true, true, true, true, true, true, true, true, true, true, true, true, true, true, true, true, true, true, true, true, true, true, true, true, true, true, true, true, true, true, false, false, false, false, false, false, false, false, false, false, false, false, false, false, false, false, false, false, false, false, false, false, false, false, false, false] rfl rfl (any_of HT_.out (by kernel_rfl)) (fun _ _ _ h => h) (Or.inl ⟨by rfl, ?_⟩) ?_ ?_
 rotate_left
 ·intro w'
  go_simp
  with_reducible rfl
 rotate_left
 ·simp only [Act.put, List.setIfInBounds_toArray, List.set_cons_zero, List.set_cons_succ, i64_w, i32_w]
  rfl
 refine pure_ (i := 33) (N := (some 102)) (v := ?_) (a' := ?_) #[true, true, true, true, true, true, true, true, true, true, true, true, true, true, true, true, true, true, true, true, true, true, true, true, true, true, true, true, true, true, true, true, true, true, false, false, false, false, false, false, false, false, false, false, false, false, false, false, false, false, false, false, false, false, false, false, false, false, false] rfl rfl (any_of HT_.out (by kernel_rfl)) (fun _ _ _ h => h) (Or.inl ⟨by rfl, ?_⟩) ?_ ?_
 rotate_left
 ·intro w'
  go_simp
  with_reducible rfl
 rotate_left
 ·simp only [Act.put, List.setIfInBounds_toArray, List.set_cons_zero, List.set_cons_succ, i64_w, i32_w]
  rfl
 refine pure_ (i := 34) (N := (some 103)) (v := ?_) (a' := ?_) #[true, true, true, true, true, true, true, true, true, true, true, true, true, true, true, true, true, true, true, true, true, true, true, true, true, true, true, true, true, true, true, true, true, true, true, false, false, false, false, false, false, false, false, false, false, false, false, false, false, false, false, false, false, false, false, false, false, false, false] rfl rfl (any_of HT_.out (by kernel_rfl)) (fun _ _ _ h => h) (Or.inl ⟨by rfl, ?_⟩) ?_ ?_
 rotate_left
 ·intro w'
  go_simp
  with_reducible rfl
 rotate_left
 ·simp only [Act.put, List.setIfInBounds_toArray, List.set_cons_zero, List.set_cons_succ, i64_w, i32_w]
  rfl
 refine pure_ (i := 35) (N := (some 104)) (v := ?_) (a' := ?_) #[true, true, true, true, true, true, true, true, true, true, true, true, true, true, true, true, true, true, true, true, true, true, true, true, true, true, true, true, true, true, true, true, true, true, true, true, false, false, false, false, false, false, false, false, false, false, false, false, false, false, false, false, false, false, false, false, false, false, false] rfl rfl (any_of HT_.out (by kernel_rfl)) (fun _ _ _ h => h) (Or.inl ⟨by rfl, ?_⟩) ?_ ?_
 rotate_left
 ·intro w'
  go_simp
  with_reducible rfl
 rotate_left
 ·simp only [Act.put, List.setIfInBounds_toArray, List.set_cons_zero, List.set_cons_succ, i64_w, i32_w]
  rfl
 refine pure_ (i := 36) (N := (some 105)) (v := ?_) (a' := ?_) #[true, true, true, true, true, true, true, true, true, true, true, true, true, true, true, true, true, true, true, true, true, true, true, true, true, true, true, true, true, true, true, true, true, true, true, true, true, false, false, false, false, false, false, false, false, false, false, false, false, false, false, false, false, false, false, false, false, false, false] rfl rfl (any_of HT_.out (by kernel_rfl)) (fun _ _ _ h => h) (Or.inl ⟨by rfl, ?_⟩) ?_ ?_
 rotate_left
 ·intro w'
  go_simp
  with_reducible rfl
 rotate_left
 ·simp only [Act.put, List.setIfInBounds_toArray, List.set_cons_zero, List.set_cons_succ, i64_w, i32_w]
  rfl
 refine pure_ (i := 37) (N := (some 106)) (v := ?_) (a' := ?_) #[true, true, true, true, true, true, true, true, true, true, true, true, true, true, true, true, true, true, true, true, true, true, true, true, true, true, true, true, true, true, true, true, true, true, true, true, true, true, false, false, false, false, false, false, false, false, false, false, false, false, false, false, false, false, false, false, false, false, false] rfl rfl (any_of HT_.out (by kernel_rfl)) (fun _ _ _ h => h) (Or.inl ⟨by rfl, ?_⟩) ?_ ?_
 rotate_left
 ·intro w'
  go_simp
  with_reducible rfl
 rotate_left
 ·simp only [Act.put, List.setIfInBounds_toArray, List.set_cons_zero, List.set_cons_succ, i64_w, i32_w]
  rfl
 refine pure_ (i := 38) (N := (some 107)) (v := ?_) (a' := ?_) #[true, true, true, true, true, true, true, true, true, true, true, true, true, true, true, true, true, true, true, true, true, true, true, true, true, true, true, true, true, true, true, true, true, true, true, true, true, true, true, false, false, false, false, false, false, false, false, false, false, false, false, false, false, false, false, false, false, false, false] rfl rfl (any_of HT_.out (by kernel_rfl)) (fun _ _ _ h => h) (Or.inl ⟨by rfl, ?_⟩) ?_ ?_
 rotate_left
 ·intro w'
  go_simp
  with_reducible rfl
 rotate_left
 ·simp only [Act.put, List.setIfInBounds_toArray, List.set_cons_zero, List.set_cons_succ, i64_w, i32_w]
  rfl
 refine pure_ (i := 39) (N := (some 108)) (v := ?_) (a' := ?_) #[true, true, true, true, true, true, true, true, true, true, true, true, true, true, true, true, true, true, true, true, true, true, true, true, true, true, true, true, true, true, true, true, true, true, true, true, true, true, true, true, false, false, false, false, false, false, false, false, false, false, false, false, false, false, false, false, false, false, false] rfl rfl (any_of HT_.out (by kernel_rfl)) (fun _ _ _ h => h) (Or.inl ⟨by rfl, ?_⟩) ?_ ?_
 rotate_left
 ·intro w'
  go_simp
  with_reducible rfl
 rotate_left
 ·simp only [Act.put, List.setIfInBounds_toArray, List.set_cons_zero, List.set_cons_succ, i64_w, i32_w]
  rfl
 refine pure_ (i := 40) (N := (some 109)) (v := ?_) (a' := ?_) #[true, true, true, true, true, true, true, true, true, true, true, true, true, true, true, true, true, true, true, true, true, true, true, true, true, true, true, true, true, true, true, true, true, true, true, true, true, true, true, true, true, false, false, false, false, false, false, false, false, false, false, false, false, false, false, false, false, false, false] rfl rfl (any_of HT_.out (by kernel_rfl)) (fun _ _ _ h => h) (Or.inl ⟨by rfl, ?_⟩) ?_ ?_
 rotate_left
 ·intro w'
  go_simp
  with_reducible rfl
 rotate_left
 ·simp only [Act.put, List.setIfInBounds_toArray, List.set_cons_zero, List.set_cons_succ, i64_w, i32_w]
  rfl
 refine take_ (i := 41) (N := (some 110)) (v := ?_) (a' := ?_) #[true, true, true, true, true, true, true, true, true, true, true, true, true, true, true, true, true, true, true, true, true, true, true, true, true, true, true, true, true, true, true, true, true, true, true, true, true, true, true, true, true, true, false, false, false, false, false, false, false, false, false, false, false, false, false, false, false, false, false] rfl rfl (take_ofW HT_.out HW_.out (by kernel_rfl)) (fun _ _ _ h => h) (Or.inl ⟨by rfl, ?_⟩) hHeld ?_ ?_
 rotate_left
 ·rintro w' ⟨h5, h9, h11, h13, h15, h18, h21, h24⟩
  have d0 := (blk_cell h21 0).trans rfl
  have d1 := (blk_cell h21 1).trans rfl
  have d2 := (blk_cell h21 2).trans rfl
  have d3 := (blk_cell h21 3).trans rfl
  go_simp
  with_reducible rfl
 rotate_left
 ·simp only [Act.put, List.setIfInBounds_toArray, List.set_cons_zero, List.set_cons_succ, i64_w, i32_w]
  rfl
 refine take_ (i := 42) (N := (some 111)) (v := ?_) (a' := ?_) #[true, true, true, true, true, true, true, true, true, true, true, true, true, true, true, true, true, true, true, true, true, true, true, true, true, true, true, true, true, true, true, true, true, true, true, true, true, true, true, true, true, true, true, false, false, false, false, false, false, false, false, false, false, false, false, false, false, false, false] rfl rfl (take_ofW HT_.out HW_.out (by kernel_rfl)) (fun _ _ _ h => h) (Or.inl ⟨by rfl, ?_⟩) hHeld ?_ ?_
 rotate_left
 ·rintro w' ⟨h5, h9, h11, h13, h15, h18, h21, h24⟩
  have d0 := (blk_cell h24 0).trans rfl
  have d1 := (blk_cell h24 1).trans rfl
  have d2 := (blk_cell h24 2).trans rfl
  have d3 := (blk_cell h24 3).trans rfl
  go_simp
  with_reducible rfl
 rotate_left
 ·simp only [Act.put, List.setIfInBounds_toArray, List.set_cons_zero, List.set_cons_succ, i64_w, i32_w]
  rfl
 refine one_ (i := 43) (N := (some 112)) #[true, true, true, true, true, true, true, true, true, true, true, true, true, true, true, true, true, true, true, true, true, true, true, true, true, true, true, true, true, true, true, true, true, true, true, true, true, true, true, true, true, true, true, true, false, false, false, false, false, false, false, false, false, false, false, false, false, false, false] rfl rfl (one_of HT_.out (by kernel_rfl)) (by decide) (fun K hK => ?_)
 refine goes_ Try.func30 (by kernel_rfl) rfl #[.agg #[.int .i64 s1, .int .i64 s2, .int .i64 s3, .slice AS sl.length cAS], .agg #[.int .i64 s1, .int .i64 s2, .int .i64 s3, .slice AT sl.length cAT]] (by rfl) rfl rfl (by (try simp only [List.map_toArray, List.map_cons, List.map_nil]); first | done | rfl) ?_
 refine (musterlow_SameAsker.calls k s1 s2 s3 AS cAS sl s1 s2 s3 AT cAT sl true w27 KAS.out HCAS.out KAT.out HCAT.out F14.out).mono ?_
 rintro e w28 ⟨rfl, b⟩
 refine ⟨_, rfl, ?_⟩
 replace HR := hd (Kd.C_below HR.out b)
 replace HP := hd (Kd.C_below HP.out b)
 replace K1 := hd (Kd.C_below K1.out b)
 replace K2 := hd (Kd.C_below K2.out b)
 replace KAX := hd (Kd.C_below KAX.out b)
 replace KAY := hd (Kd.C_below KAY.out b)
 replace KAB := hd (Kd.C_below KAB.out b)
 replace KAC := hd (Kd.C_below KAC.out b)
 replace KAS := hd (Kd.C_below KAS.out b)
 replace KAT := hd (Kd.C_below KAT.out b)
 replace HX5 := hd (blk_below HX5.out b)
 replace HX9 := hd (blk_below HX9.out b)
 replace HX11 := hd (blk_below HX11.out b)
 replace HX13 := hd (blk_below HX13.out b)
 replace HX15 := hd (blk_below HX15.out b)
 replace HX18 := hd (blk_below HX18.out b)
 replace HX21 := hd (blk_below HX21.out b)
 replace HX24 := hd (blk_below HX24.out b)
 replace HB : Hd (Below w.heap.size w w28) := hd (below_then HB.out HB.out.size b)
 clear b
 have hS2 : w28.heap[w.heap.size]? = some (.cells #[.int .i64 a0, .int .i64 a1, .int .i64 a2, .slice A l.length c] 50 (0, 0)) ∧ w28.heap[g9]? = some (.cells #[.int .i64 a0, .int .i64 a1, .int .i64 a2, .slice A1 l.length c1] 50 (0, 0)) ∧ w28.heap[g11]? = some (.cells #[.int .i64 x1, .int .i64 x2, .int .i64 x3, .slice AX xl.length cAX] 50 (0, 0)) ∧ w28.heap[g13]? = some (.cells #[.int .i64 x1, .int .i64 x2, .int .i64 x3, .slice AY xl.length cAY] 50 (0, 0)) ∧ w28.heap[g15]? = some (.cells #[.int .i64 b1, .int .i64 b2, .int .i64 b3, .slice AB bl.length cAB] 50 (0, 0)) ∧ w28.heap[g18]? = some (.cells #[.int .i64 b1, .int .i64 b2, .int .i64 b3, .slice AC bl.length cAC] 50 (0, 0)) ∧ w28.heap[g21]? = some (.cells #[.int .i64 s1, .int .i64 s2, .int .i64 s3, .slice AS sl.length cAS] 50 (0, 0)) ∧ w28.heap[g24]? = some (.cells #[.int .i64 s1, .int .i64 s2, .int .i64 s3, .slice AT sl.length cAT] 50 (0, 0)) := ⟨HX5.out, HX9.out, HX11.out, HX13.out, HX15.out, HX18.out, HX21.out, HX24.out⟩
 refine hK.out _ _ hS2 (fun hHeld => ?_)
 clear hK K hS2
 refine norm_ (a' := ?_) ?_ ?_
 rotate_left
 ·show Act.put _ (some 112) _ = _
  simp only [Act.put, List.setIfInBounds_toArray, List.set_cons_zero, List.set_cons_succ, i64_w, i32_w]
  rfl
 refine pure_ (i := 44) (N := (some 113)) (v := ?_) (a' := ?_) #[true, true, true, true, true, true, true, true, true, true, true, true, true, true, true, true, true, true, true, true, true, true, true, true, true, true, true, true, true, true, true, true, true, true, true, true, true, true, true, true, true, true, true, true, true, false, false, false, false, false, false, false, false, false, false, false, false, false, false] rfl rfl (any_of HT_.out (by kernel_rfl)) (fun _ _ _ h => h) (Or.inl ⟨by rfl, ?_⟩) ?_ ?_
 rotate_left
 ·intro w'
  go_simp
  with_reducible rfl
 rotate_left
 ·simp only [Act.put, List.setIfInBounds_toArray, List.set_cons_zero, List.set_cons_succ, i64_w, i32_w]
  rfl
 refine pure_ (i := 45) (N := (some 114)) (v := ?_) (a' := ?_) #[true, true, true, true, true, true, true, true, true, true, true, true, true, true, true, true, true, true, true, true, true, true, true, true, true, true, true, true, true, true, true, true, true, true, true, true, true, true, true, true, true, true, true, true, true, true, false, false, false, false, false, false, false, false, false, false, false, false, false] rfl rfl (any_of HT_.out (by kernel_rfl)) (fun _ _ _ h => h) (Or.inl ⟨by rfl, ?_⟩) ?_ ?_
 rotate_left
 ·intro w'
  go_simp
  with_reducible rfl
 rotate_left
 ·simp only [Act.put, List.setIfInBounds_toArray, List.set_cons_zero, List.set_cons_succ, i64_w, i32_w]
  rfl
 refine take_ (i := 46) (N := (some 115)) (v := ?_) (a' := ?_) #[true, true, true, true, true, true, true, true, true, true, true, true, true, true, true, true, true, true, true, true, true, true, true, true, true, true, true, true, true, true, true, true, true, true, true, true, true, true, true, true, true, true, true, true, true, true, true, false, false, false, false, false, false, false, false, false, false, false, false] rfl rfl (take_ofW HT_.out HW_.out (by kernel_rfl)) (fun _ _ _ h => h) (Or.inl ⟨by rfl, ?_⟩) hHeld ?_ ?_
 rotate_left
 ·rintro w' ⟨h5, h9, h11, h13, h15, h18, h21, h24⟩
  have d0 := (blk_cell h9 0).trans rfl
  have d1 := (blk_cell h9 1).trans rfl
  have d2 := (blk_cell h9 2).trans rfl
  have d3 := (blk_cell h9 3).trans rfl
  go_simp
  with_reducible rfl
 rotate_left
 ·simp only [Act.put, List.setIfInBounds_toArray, List.set_cons_zero, List.set_cons_succ, i64_w, i32_w]
  rfl
 refine take_ (i := 47) (N := (some 116)) (v := ?_) (a' := ?_) #[true, true, true, true, true, true, true, true, true, true, true, true, true, true, true, true, true, true, true, true, true, true, true, true, true, true, true, true, true, true, true, true, true, true, true, true, true, true, true, true, true, true, true, true, true, true, true, true, false, false, false, false, false, false, false, false, false, false, false] rfl rfl (take_ofW HT_.out HW_.out (by kernel_rfl)) (fun _ _ _ h => h) (Or.inl ⟨by rfl, ?_⟩) hHeld ?_ ?_
 rotate_left
 ·rintro w' ⟨h5, h9, h11, h13, h15, h18, h21, h24⟩
  have d0 := (blk_cell h5 0).trans rfl
  have d1 := (blk_cell h5 1).trans rfl
  have d2 := (blk_cell h5 2).trans rfl
  have d3 := (blk_cell h5 3).trans rfl
  go_simp
  with_reducible rfl
 rotate_left
 ·simp only [Act.put, List.setIfInBounds_toArray, List.set_cons_zero, List.set_cons_succ, i64_w, i32_w]
  rfl
 refine one_ (i := 48) (N := (some 117)) #[true, true, true, true, true, true, true, true, true, true, true, true, true, true, true, true, true, true, true, true, true, true, true, true, true, true, true, true, true, true, true, true, true, true, true, true, true, true, true, true, true, true, true, true, true, true, true, true, true, false, false, false, false, false, false, false, false, false, false] rfl rfl (one_of HT_.out (by kernel_rfl)) (by decide) (fun K hK => ?_)
 refine goes_ Try.func30 (by kernel_rfl) rfl #[.agg #[.int .i64 a0, .int .i64 a1, .int .i64 a2, .slice A1 l.length c1], .agg #[.int .i64 a0, .int .i64 a1, .int .i64 a2, .slice A l.length c]] (by rfl) rfl rfl (by (try simp only [List.map_toArray, List.map_cons, List.map_nil]); first | done | rfl) ?_
 refine (musterlow_SameAsker.calls k a0 a1 a2 A1 c1 l a0 a1 a2 A c l true w28 K1.out HC1.out HR.out hc0 F15.out).mono ?_
 rintro e w29 ⟨rfl, b⟩
 refine ⟨_, rfl, ?_⟩
 replace HR := hd (Kd.C_below HR.out b)
 replace HP := hd (Kd.C_below HP.out b)
 replace K1 := hd (Kd.C_below K1.out b)
 replace K2 := hd (Kd.C_below K2.out b)
 replace KAX := hd (Kd.C_below KAX.out b)
 replace KAY := hd (Kd.C_below KAY.out b)
 replace KAB := hd (Kd.C_below KAB.out b)
 replace KAC := hd (Kd.C_below KAC.out b)
 replace KAS := hd (Kd.C_below KAS.out b)
 replace KAT := hd (Kd.C_below KAT.out b)
 replace HX5 := hd (blk_below HX5.out b)
 replace HX9 := hd (blk_below HX9.out b)
 replace HX11 := hd (blk_below HX11.out b)
 replace HX13 := hd (blk_below HX13.out b)
 replace HX15 := hd (blk_below HX15.out b)
 replace HX18 := hd (blk_below HX18.out b)
 replace HX21 := hd (blk_below HX21.out b)
 replace HX24 := hd (blk_below HX24.out b)
 replace HB : Hd (Below w.heap.size w w29) := hd (below_then HB.out HB.out.size b)
 clear b
 have hS2 : w29.heap[w.heap.size]? = some (.cells #[.int .i64 a0, .int .i64 a1, .int .i64 a2, .slice A l.length c] 50 (0, 0)) ∧ w29.heap[g9]? = some (.cells #[.int .i64 a0, .int .i64 a1, .int .i64 a2, .slice A1 l.length c1] 50 (0, 0)) ∧ w29.heap[g11]? = some (.cells #[.int .i64 x1, .int .i64 x2, .int .i64 x3, .slice AX xl.length cAX] 50 (0, 0)) ∧ w29.heap[g13]? = some (.cells #[.int .i64 x1, .int .i64 x2, .int .i64 x3, .slice AY xl.length cAY] 50 (0, 0)) ∧ w29.heap[g15]? = some (.cells #[.int .i64 b1, .int .i64 b2, .int .i64 b3, .slice AB bl.length cAB] 50 (0, 0)) ∧ w29.heap[g18]? = some (.cells #[.int .i64 b1, .int .i64 b2, .int .i64 b3, .slice AC bl.length cAC] 50 (0, 0)) ∧ w29.heap[g21]? = some (.cells #[.int .i64 s1, .int .i64 s2, .int .i64 s3, .slice AS sl.length cAS] 50 (0, 0)) ∧ w29.heap[g24]? = some (.cells #[.int .i64 s1, .int .i64 s2, .int .i64 s3, .slice AT sl.length cAT] 50 (0, 0)) := ⟨HX5.out, HX9.out, HX11.out, HX13.out, HX15.out, HX18.out, HX21.out, HX24.out⟩
 refine hK.out _ _ hS2 (fun hHeld => ?_)
 clear hK K hS2
 refine norm_ (a' := ?_) ?_ ?_
 rotate_left
 ·show Act.put _ (some 117) _ = _
  simp only [Act.put, List.setIfInBounds_toArray, List.set_cons_zero, List.set_cons_succ, i64_w, i32_w]
  rfl
 refine pure_ (i := 49) (N := (some 118)) (v := ?_) (a' := ?_) #[true, true, true, true, true, true, true, true, true, true, true, true, true, true, true, true, true, true, true, true, true, true, true, true, true, true, true, true, true, true, true, true, true, true, true, true, true, true, true, true, true, true, true, true, true, true, true, true, true, true, false, false, false, false, false, false, false, false, false] rfl rfl (any_of HT_.out (by kernel_rfl)) (fun _ _ _ h => h) (Or.inl ⟨by rfl, ?_⟩) ?_ ?_
 rotate_left
 ·intro w'
  go_simp
  with_reducible rfl
 rotate_left
 ·simp only [Act.put, List.setIfInBounds_toArray, List.set_cons_zero, List.set_cons_succ, i64_w, i32_w]
  rfl
 refine pure_ (i := 50) (N := (some 119)) (v := ?_) (a' := ?_) #[true, true, true, true, true, true, true, true, true, true, true, true, true, true, true, true, true, true, true, true, true, true, true, true, true, true, true, true, true, true, true, true, true, true, true, true, true, true, true, true, true, true, true, true, true, true, true, true, true, true, true, false, false, false, false, false, false, false, false] rfl rfl (any_of HT_.out (by kernel_rfl)) (fun _ _ _ h => h) (Or.inl ⟨by rfl, ?_⟩) ?_ ?_
 rotate_left
 ·intro w'
  go_simp
  with_reducible rfl
 rotate_left
 ·simp only [Act.put, List.setIfInBounds_toArray, List.set_cons_zero, List.set_cons_succ, i64_w, i32_w]
  rfl
 refine pure_ (i := 51) (N := (some 120)) (v := ?_) (a' := ?_) #[true, true, true, true, true, true, true, true, true, true, true, true, true, true, true, true, true, true, true, true, true, true, true, true, true, true, true, true, true, true, true, true, true, true, true, true, true, true, true, true, true, true, true, true, true, true, true, true, true, true, true, true, false, false, false, false, false, false, false] rfl rfl (any_of HT_.out (by kernel_rfl)) (fun _ _ _ h => h) (Or.inl ⟨by rfl, ?_⟩) ?_ ?_
 rotate_left
 ·intro w'
  go_simp
  with_reducible rfl
 rotate_left
 ·simp only [Act.put, List.setIfInBounds_toArray, List.set_cons_zero, List.set_cons_succ, i64_w, i32_w]
  rfl
 refine pure_ (i := 52) (N := (some 121)) (v := ?_) (a' := ?_) #[true, true, true, true, true, true, true, true, true, true, true, true, true, true, true, true, true, true, true, true, true, true, true, true, true, true, true, true, true, true, true, true, true, true, true, true, true, true, true, true, true, true, true, true, true, true, true, true, true, true, true, true, true, false, false, false, false, false, false] rfl rfl (any_of HT_.out (by kernel_rfl)) (fun _ _ _ h => h) (Or.inl ⟨by rfl, ?_⟩) ?_ ?_
 rotate_left
 ·intro w'
  go_simp
  with_reducible rfl
 rotate_left
 ·simp only [Act.put, List.setIfInBounds_toArray, List.set_cons_zero, List.set_cons_succ, i64_w, i32_w]
  rfl
 refine one_ (i := 53) (N := (some 122)) #[true, true, true, true, true, true, true, true, true, true, true, true, true, true, true, true, true, true, true, true, true, true, true, true, true, true, true, true, true, true, true, true, true, true, true, true, true, true, true, true, true, true, true, true, true, true, true, true, true, true, true, true, true, true, false, false, false, false, false] rfl rfl (one_of HT_.out (by kernel_rfl)) (by decide) (fun K hK => ?_)
 refine goes_ Try.func18 (by kernel_rfl) rfl #[.slice B2 body.length d2, .slice B body.length d] (by rfl) rfl rfl (by (try simp only [List.map_toArray, List.map_cons, List.map_nil]); first | done | rfl) ?_
 refine (kept_any B2 d2 body B d w29 K2.out HC2.out HP.out hc4 hlen).mono ?_
 rintro e w30 ⟨rfl, b⟩
 refine ⟨_, rfl, ?_⟩
 replace HR := hd (Kd.C_below HR.out b)
 replace HP := hd (Kd.C_below HP.out b)
 replace K1 := hd (Kd.C_below K1.out b)
 replace K2 := hd (Kd.C_below K2.out b)
 replace KAX := hd (Kd.C_below KAX.out b)
 replace KAY := hd (Kd.C_below KAY.out b)
 replace KAB := hd (Kd.C_below KAB.out b)
 replace KAC := hd (Kd.C_below KAC.out b)
 replace KAS := hd (Kd.C_below KAS.out b)
 replace KAT := hd (Kd.C_below KAT.out b)
 replace HX5 := hd (blk_below HX5.out b)
 replace HX9 := hd (blk_below HX9.out b)
 replace HX11 := hd (blk_below HX11.out b)
 replace HX13 := hd (blk_below HX13.out b)
 replace HX15 := hd (blk_below HX15.out b)
 replace HX18 := hd (blk_below HX18.out b)
 replace HX21 := hd (blk_below HX21.out b)
 replace HX24 := hd (blk_below HX24.out b)
 replace HB : Hd (Below w.heap.size w w30) := hd (below_then HB.out HB.out.size b)
 clear b
 have hS2 : w30.heap[w.heap.size]? = some (.cells #[.int .i64 a0, .int .i64 a1, .int .i64 a2, .slice A l.length c] 50 (0, 0)) ∧ w30.heap[g9]? = some (.cells #[.int .i64 a0, .int .i64 a1, .int .i64 a2, .slice A1 l.length c1] 50 (0, 0)) ∧ w30.heap[g11]? = some (.cells #[.int .i64 x1, .int .i64 x2, .int .i64 x3, .slice AX xl.length cAX] 50 (0, 0)) ∧ w30.heap[g13]? = some (.cells #[.int .i64 x1, .int .i64 x2, .int .i64 x3, .slice AY xl.length cAY] 50 (0, 0)) ∧ w30.heap[g15]? = some (.cells #[.int .i64 b1, .int .i64 b2, .int .i64 b3, .slice AB bl.length cAB] 50 (0, 0)) ∧ w30.heap[g18]? = some (.cells #[.int .i64 b1, .int .i64 b2, .int .i64 b3, .slice AC bl.length cAC] 50 (0, 0)) ∧ w30.heap[g21]? = some (.cells #[.int .i64 s1, .int .i64 s2, .int .i64 s3, .slice AS sl.length cAS] 50 (0, 0)) ∧ w30.heap[g24]? = some (.cells #[.int .i64 s1, .int .i64 s2, .int .i64 s3, .slice AT sl.length cAT] 50 (0, 0)) := ⟨HX5.out, HX9.out, HX11.out, HX13.out, HX15.out, HX18.out, HX21.out, HX24.out⟩
 refine hK.out _ _ hS2 (fun hHeld => ?_)
 clear hK K hS2
 refine norm_ (a' := ?_) ?_ ?_
 rotate_left
 ·show Act.put _ (some 122) _ = _
  simp only [Act.put, List.setIfInBounds_toArray, List.set_cons_zero, List.set_cons_succ, i64_w, i32_w]
  rfl
 refine pure_ (i := 54) (N := (some 123)) (v := ?_) (a' := ?_) #[true, true, true, true, true, true, true, true, true, true, true, true, true, true, true, true, true, true, true, true, true, true, true, true, true, true, true, true, true, true, true, true, true, true, true, true, true, true, true, true, true, true, true, true, true, true, true, true, true, true, true, true, true, true, true, false, false, false, false] rfl rfl (any_of HT_.out (by kernel_rfl)) (fun _ _ _ h => h) (Or.inl ⟨by rfl, ?_⟩) ?_ ?_
 rotate_left
 ·intro w'
  go_simp
  with_reducible rfl
 rotate_left
 ·simp only [Act.put, List.setIfInBounds_toArray, List.set_cons_zero, List.set_cons_succ, i64_w, i32_w]
  rfl
 refine pure_ (i := 55) (N := (some 124)) (v := ?_) (a' := ?_) #[true, true, true, true, true, true, true, true, true, true, true, true, true, true, true, true, true, true, true, true, true, true, true, true, true, true, true, true, true, true, true, true, true, true, true, true, true, true, true, true, true, true, true, true, true, true, true, true, true, true, true, true, true, true, true, true, false, false, false] rfl rfl (any_of HT_.out (by kernel_rfl)) (fun _ _ _ h => h) (Or.inl ⟨by rfl, ?_⟩) ?_ ?_
 rotate_left
 ·intro w'
  go_simp
  with_reducible rfl
 rotate_left
 ·simp only [Act.put, List.setIfInBounds_toArray, List.set_cons_zero, List.set_cons_succ, i64_w, i32_w]
  rfl
 refine one_ (i := 56) (N := (some 125)) #[true, true, true, true, true, true, true, true, true, true, true, true, true, true, true, true, true, true, true, true, true, true, true, true, true, true, true, true, true, true, true, true, true, true, true, true, true, true, true, true, true, true, true, true, true, true, true, true, true, true, true, true, true, true, true, true, true, false, false] rfl rfl (one_of HT_.out (by kernel_rfl)) (by decide) (fun K hK => ?_)
 refine goes_ Try.func19 (by kernel_rfl) rfl #[] (by rfl) rfl rfl (by (try simp only [List.map_toArray, List.map_cons, List.map_nil]); first | done | rfl) ?_
 refine (awake_walk w30).mono ?_
 rintro e w31 ⟨rfl, b⟩
 refine ⟨_, rfl, ?_⟩
 replace HR := hd (Kd.C_below HR.out b)
 replace HP := hd (Kd.C_below HP.out b)
 replace K1 := hd (Kd.C_below K1.out b)
 replace K2 := hd (Kd.C_below K2.out b)
 replace KAX := hd (Kd.C_below KAX.out b)
 replace KAY := hd (Kd.C_below KAY.out b)
 replace KAB := hd (Kd.C_below KAB.out b)
 replace KAC := hd (Kd.C_below KAC.out b)
 replace KAS := hd (Kd.C_below KAS.out b)
 replace KAT := hd (Kd.C_below KAT.out b)
 replace HX5 := hd (blk_below HX5.out b)
 replace HX9 := hd (blk_below HX9.out b)
 replace HX11 := hd (blk_below HX11.out b)
 replace HX13 := hd (blk_below HX13.out b)
 replace HX15 := hd (blk_below HX15.out b)
 replace HX18 := hd (blk_below HX18.out b)
 replace HX21 := hd (blk_below HX21.out b)
 replace HX24 := hd (blk_below HX24.out b)
 replace HB : Hd (Below w.heap.size w w31) := hd (below_then HB.out HB.out.size b)
 clear b
 have hS2 : w31.heap[w.heap.size]? = some (.cells #[.int .i64 a0, .int .i64 a1, .int .i64 a2, .slice A l.length c] 50 (0, 0)) ∧ w31.heap[g9]? = some (.cells #[.int .i64 a0, .int .i64 a1, .int .i64 a2, .slice A1 l.length c1] 50 (0, 0)) ∧ w31.heap[g11]? = some (.cells #[.int .i64 x1, .int .i64 x2, .int .i64 x3, .slice AX xl.length cAX] 50 (0, 0)) ∧ w31.heap[g13]? = some (.cells #[.int .i64 x1, .int .i64 x2, .int .i64 x3, .slice AY xl.length cAY] 50 (0, 0)) ∧ w31.heap[g15]? = some (.cells #[.int .i64 b1, .int .i64 b2, .int .i64 b3, .slice AB bl.length cAB] 50 (0, 0)) ∧ w31.heap[g18]? = some (.cells #[.int .i64 b1, .int .i64 b2, .int .i64 b3, .slice AC bl.length cAC] 50 (0, 0)) ∧ w31.heap[g21]? = some (.cells #[.int .i64 s1, .int .i64 s2, .int .i64 s3, .slice AS sl.length cAS] 50 (0, 0)) ∧ w31.heap[g24]? = some (.cells #[.int .i64 s1, .int .i64 s2, .int .i64 s3, .slice AT sl.length cAT] 50 (0, 0)) := ⟨HX5.out, HX9.out, HX11.out, HX13.out, HX15.out, HX18.out, HX21.out, HX24.out⟩
 refine hK.out _ _ hS2 (fun hHeld => ?_)
 clear hK K hS2
 refine norm_ (a' := ?_) ?_ ?_
 rotate_left
 ·show Act.put _ (some 125) _ = _
  simp only [Act.put, List.setIfInBounds_toArray, List.set_cons_zero, List.set_cons_succ, i64_w, i32_w]
  rfl
 refine pure_ (i := 57) (N := (some 126)) (v := ?_) (a' := ?_) #[true, true, true, true, true, true, true, true, true, true, true, true, true, true, true, true, true, true, true, true, true, true, true, true, true, true, true, true, true, true, true, true, true, true, true, true, true, true, true, true, true, true, true, true, true, true, true, true, true, true, true, true, true, true, true, true, true, true, false] rfl rfl (any_of HT_.out (by kernel_rfl)) (fun _ _ _ h => h) (Or.inl ⟨by rfl, ?_⟩) ?_ ?_
 rotate_left
 ·intro w'
  go_simp
  with_reducible rfl
 rotate_left
 ·simp only [Act.put, List.setIfInBounds_toArray, List.set_cons_zero, List.set_cons_succ, i64_w, i32_w]
  rfl
 refine pure_ (i := 58) (N := (some 8)) (v := ?_) (a' := ?_) #[true, true, true, true, true, true, true, true, true, true, true, true, true, true, true, true, true, true, true, true, true, true, true, true, true, true, true, true, true, true, true, true, true, true, true, true, true, true, true, true, true, true, true, true, true, true, true, true, true, true, true, true, true, true, true, true, true, true, true] rfl rfl (any_of HT_.out (by kernel_rfl)) (fun _ _ _ h => h) (Or.inl ⟨by rfl, ?_⟩) ?_ ?_
 rotate_left
 ·intro w'
  go_simp
  with_reducible rfl
 rotate_left
 ·simp only [Act.put, List.setIfInBounds_toArray, List.set_cons_zero, List.set_cons_succ, i64_w, i32_w]
  rfl
 refine done_ (done_of HT_.out (by kernel_rfl)) ?_
 clear HT_ HW_
 go_wp2
 go_ret
 exact ⟨rfl, HB.out⟩
def smallB (l : List S70) (body : List Int) : Bool := decide (l.length < 4398046511104) && l.all (fun x => decide (x.f1.length < 140737488355328)) && decide (body.length + 3 < 140737488355328)
def musterlaw09_SessionAsks.f (a0 a1_0 a1_1 a1_2 : Int) (l1_3 : List S70) (l2 : List Int) (a3 : Int) : Option Bool := if (smallB l1_3 l2 && i64D a1_2 && i64D a3) = true then some true else none
theorem i64D_of {x : Int} (h : i64D x = true) : i64 x := by
 unfold i64D at h
 simpa [i64] using h
theorem ask_len (id nx ak : Int) (l : List S70) (body : List Int) : (askS id nx ak l body).2.2.2.1.length ≤ l.length + 1 := by
 unfold askS
 repeat' split
 all_goals simp
theorem take_len (id nx ak : Int) (l : List S70) (rq : Int) : (takeS id nx ak l rq).2.2.2.1.length ≤ l.length := by
 unfold takeS
 split
 ·exact List.length_filter_le _ _
 ·simp
theorem begin_len (id : Int) : (beginS id).2.2.2.1.length = 0 := by
 unfold beginS
 repeat' split
 all_goals rfl
theorem musterlaw09_SessionAsks.calls (a0 a1_0 a1_1 a1_2 : Int) (A1_3 : Option Addr) (c1_3 : Nat) (l1_3 : List S70) (A2 : Option Addr) (c2 : Nat) (l2 : List Int) (a3 : Int) (r : Bool) (w : World)
  (hr1_3 : Kd.C k70 w A1_3 l1_3.length l1_3) (hc1_3 : l1_3.length ≤ c1_3) (hr2 : Kd.C (Kd.int .u8) w A2 l2.length l2) (hc2 : l2.length ≤ c2) (h : musterlaw09_SessionAsks.f a0 a1_0 a1_1 a1_2 l1_3 l2 a3 = some r) :
  Calls Try.prog 6 #[.int .i64 a0, .agg #[.int .i64 a1_0, .int .i64 a1_1, .int .i64 a1_2, .slice A1_3 l1_3.length c1_3], .slice A2 l2.length c2, .int .i64 a3] w fun e w' => e = .returned (.bool r) ∧ Below w.heap.size w w' := by
 unfold musterlaw09_SessionAsks.f at h
 split at h
 ·rename_i hh
  cases h
  simp only [Bool.and_eq_true] at hh
  obtain ⟨⟨hsb, hi2⟩, hi3⟩ := hh
  unfold smallB at hsb
  simp only [Bool.and_eq_true, decide_eq_true_eq, List.all_eq_true] at hsb
  obtain ⟨⟨hs1, hs2⟩, hs3⟩ := hsb
  have hs : small70 l1_3 := ⟨hs1, hs2⟩
  have hak := i64D_of hi2
  have hrq := i64D_of hi3
  obtain ⟨k1, e1⟩ := copya_ev a1_0 a1_1 a1_2 l1_3 hs
  obtain ⟨k2, e2⟩ := ask_ev a1_0 a1_1 a1_2 l1_3 l2 hs hak (by omega)
  obtain ⟨k3, e3⟩ := refA_ev a1_0 a1_1 a1_2 l1_3 l2 hs hak (by omega)
  obtain ⟨k4, e4⟩ := refT_ev a1_0 a1_1 a1_2 l1_3 a3 hs hak
  obtain ⟨k5, e5⟩ := waits_ev l1_3 hs
  obtain ⟨k6, e6⟩ := refRA_ev a1_0 a1_1 a1_2 l1_3 (by omega) hak
  obtain ⟨x1, x2, x3, xl, xe, hx⟩ : ∃ x1 x2 x3 xl xe, beginS a0 = (x1, x2, x3, xl, xe) := ⟨_, _, _, _, _, rfl⟩
  obtain ⟨b1, b2, b3, bl, bn, be, hb⟩ : ∃ b1 b2 b3 bl bn be, askS a1_0 a1_1 a1_2 l1_3 l2 = (b1, b2, b3, bl, bn, be) := ⟨_, _, _, _, _, _, rfl⟩
  obtain ⟨s1, s2, s3, sl, sw, se, ht⟩ : ∃ s1 s2 s3 sl sw se, takeS a1_0 a1_1 a1_2 l1_3 a3 = (s1, s2, s3, sl, sw, se) := ⟨_, _, _, _, _, _, rfl⟩
  have q1 := begin_len a0
  have q2 := ask_len a1_0 a1_1 a1_2 l1_3 l2
  have q3 := take_len a1_0 a1_1 a1_2 l1_3 a3
  rw [hx] at q1
  rw [hb] at q2
  rw [ht] at q3
  simp only at q1 q2 q3
  obtain ⟨k7, e7⟩ := samea_ev x1 x2 x3 xl (by omega)
  obtain ⟨k8, e8⟩ := samea_ev b1 b2 b3 bl (by omega)
  obtain ⟨k9, e9⟩ := samea_ev s1 s2 s3 sl (by omega)
  obtain ⟨k10, e10⟩ := samea_ev a1_0 a1_1 a1_2 l1_3 (by omega)
  obtain ⟨k, hk⟩ : ∃ k, k = k1 + k2 + k3 + k4 + k5 + k6 + k7 + k8 + k9 + k10 := ⟨_, rfl⟩
  obtain ⟨f1, f2⟩ := begin_is a0
  rw [hx] at f1 f2
  have g2 := e2 k (by omega)
  have g3 := e3 k (by omega)
  have g4 := e4 k (by omega)
  rw [hb] at g2 g3
  rw [ht] at g4
  exact asks_walk k a0 a1_0 a1_1 a1_2 a3 A1_3 c1_3 l1_3 A2 c2 l2 w _ x1 x2 x3 xe b1 b2 b3 bn be s1 s2 s3 se xl bl sl sw hr1_3 hc1_3 hr2 hc2 hs3 hak hrq hs1 (e1 k (by omega)) f1 f2 g2 g3 ht g4 (e5 k (by omega)) (e6 k (by omega)) rfl (e7 k (by omega)) (e8 k (by omega)) (e9 k (by omega)) (e10 k (by omega))
 ·cases h
end Go.Proofs.Ytafnjlgdjhegaaa.Pr
end
