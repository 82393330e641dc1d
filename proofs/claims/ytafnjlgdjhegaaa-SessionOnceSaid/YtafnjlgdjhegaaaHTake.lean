/-
  Texts of this session, laid together by wip/tools/merge.py: HDel70, HTake.
-/
import Derived.Test.YtafnjlgdjhegaaaPr0
import Derived.Test.YtafnjlgdjhegaaaG
import Derived.Test.YtafnjlgdjhegaaaHAsker
import Derived.Test.YtafnjlgdjhegaaaPr21
import Derived.Deep.CutBlock
import Derived.Deep.DeepCutAuto
section
namespace Go.Proofs.Ytafnjlgdjhegaaa.Pr
open Go.RowKit Go.Proofs.YtafnjlgdjhegaaaW.PrintWords Go.Proofs.YtafnjlgdjhegaaaW.PrintLast Go.Proofs.YtafnjlgdjhegaaaW.PrintMore Go.Proofs.YtafnjlgdjhegaaaG
set_option linter.unusedVariables false
set_option linter.unusedSimpArgs false
theorem R_cleared {α : Type} {d : Kd α} {e base g m c off : Nat} {w w' : World} {ok : Nat → Prop} {xs : List α} {cur zs : List Value} (h : d.R e w base ok (.slice (some ⟨g, 0, none⟩) m c) xs) (hg : w.heap[g]? = some (.cells cur.toArray e (0, 0)))
    (hg' : w'.heap[g]? = some (.cells (splice cur off zs).toArray e (0, 0))) (hoff : m * d.sz ≤ off) (hfit : off + zs.length ≤ cur.length) (hgr : w.grownBy w' (some g)) : d.R e w' base ok (.slice (some ⟨g, 0, none⟩) m c) xs := by
  have hm : m = xs.length := (Kd.R_reads' h).1
  obtain ⟨h0, inner, ho, hr⟩ := h
  refine ⟨h0, inner, ?_, hr.1, fun j p hp => Kd.M_grown (hr.2 j p hp) hgr (fun k hk e => hk.2 (by simpa [Value.ownBlock] using e))⟩
  rcases ho.2 with ⟨hv, _⟩ | ⟨g', cap', cur', hv, hb, hh, h1, h2, h3, h4⟩
  · cases hv
  · simp only [Value.slice.injEq, Option.some.injEq, Addr.mk.injEq, and_true, true_and] at hv
    obtain ⟨rfl, hmm, rfl⟩ := hv
    rw [hg] at hh
    simp only [Option.some.injEq, Obj.cells.injEq, and_true] at hh
    subst hh
    refine ⟨ho.1, .inr ⟨g, c, (splice cur off zs).toArray, by rw [hmm], hb, hg', h1, h2, ?_, ?_⟩⟩
    · rw [← h3]
      simp [length_splice _ _ _ hfit]
    · rw [← h4]
      simp only
      unfold splice
      rw [List.take_append_of_le_length (by rw [List.length_take]; rw [← hm]; omega), List.take_take]
      congr 1
      rw [← hm]
      omega
theorem R_block {α : Type} {d : Kd α} {e base g m c : Nat} {w : World} {ok : Nat → Prop} {xs : List α} (h : d.R e w base ok (.slice (some ⟨g, 0, none⟩) m c) xs) : ∃ cur : List Value, w.heap[g]? = some (.cells cur.toArray e (0, 0)) ∧ cur.length = c * d.sz ∧ base ≤ g ∧ c ≤ maxLen := by
  obtain ⟨h0, inner, ho, hr⟩ := h
  rcases ho.2 with ⟨hv, _⟩ | ⟨g', cap', cur', hv, hb, hh, h1, h2, h3, h4⟩
  · cases hv
  · simp only [Value.slice.injEq, Option.some.injEq, Addr.mk.injEq, and_true, true_and] at hv
    obtain ⟨rfl, hmm, rfl⟩ := hv
    exact ⟨cur'.toList, by simpa using hh, by simpa using h3, hb, h2⟩
theorem size70 : (Try.prog.info? 70).map (·.size) = some 2 := by kernel_rfl
theorem holdD {p} (h : Hd p) : p := h.out
def del70.T5 : Bool × List (List Nat × List Nat) := (true, [([], []), ([], []), ([0, 1], [0, 1]), ([], []), ([], []), ([3, 4], [3, 4]), ([2, 5], [2, 5]), ([6, 6, 0, 1, 2, 3, 4, 5, 6], [0, 3, 6])])
def del70.B5 : List Nat := [0, 0, 3, 0, 0, 24, 63, 127]
theorem del70.tab5 : rtab .any (opsOf Try.f54 5) = del70.T5 := by kernel_rfl
theorem del70.bits5 : waitsOk del70.T5.2 del70.B5 = true := by kernel_rfl
set_option maxRecDepth 100000 in
set_option maxHeartbeats 400000 in
theorem del70_any (base g c n i : Nat) (ok : Nat → Prop) (xs : List S70) (w : World) (h : Kd.R k70 70 w base ok (.slice (some ⟨g, 0, none⟩) n c) xs) (hi : i < n) (hb : base ≤ w.heap.size) (hn : n ≤ 4398046511104) :
    Calls Try.prog 54 #[.slice (some ⟨g, 0, none⟩) n c, .int .i64 (i : Int), .int .i64 ((i + 1 : Nat) : Int)] w fun e w' => e = .returned (.slice (some ⟨g, 0, none⟩) (n - 1) c) ∧ Kd.R k70 70 w' base ok (.slice (some ⟨g, 0, none⟩) (n - 1) c) (xs.eraseIdx i) ∧ w.grownBy w' (some g) := by
  have H := hd h
  have hnc : n ≤ c := (Kd.R_reads' h).2.1
  have hc : c ≤ 9223372036854775807 := by obtain ⟨_, _, _, _, hc⟩ := R_block h; simpa [maxLen] using hc
  clear h
  have hne : ((i : Int) == (i : Int) + 1) = false := beq_eq_false_iff_ne.2 (by omega)
  go_enter Try.func54, Try.ntmps54
  go_wp2_with fail
  obtain ⟨i70, hi70, hz70⟩ := Option.map_eq_some_iff.1 size70
  have hca := cut_to (P := Try.prog) 48 70 .i64 Try.underlying48 hi70 (some ⟨g, 0, none⟩) n c (i : Int) (by omega) (by omega) hnc
  have hcb1 : (0 : Int) ≤ (i : Int) + 1 := by omega
  have hcb2 : (i : Int) + 1 ≤ (n : Int) := by omega
  rw [Int.toNat_natCast] at hca
  clear hi70 hz70
  have HW : Hd (Kd.R k70 70 w.drew base ok (.slice (some ⟨g, 0, none⟩) n c) xs) := hd (Kd.R_drewN H.out 1)
  have hbw : base ≤ w.drew.heap.size := hb
  refine start_ (n := 8) (S := fun w' => True) (ds := []) #[false, false, false, false, false, false, false, false] (by kernel_rfl) rfl rfl trivial (fun hHeld => ?_)
  refine with_tabW del70.tab5 del70.bits5 (fun HT_ HW_ => ?_)
  refine pure_ (i := 0) (N := (some 20)) (v := ?_) (a' := ?_) #[true, false, false, false, false, false, false, false] rfl rfl (any_of HT_.out (by kernel_rfl)) (fun _ _ _ h => h) (Or.inl ⟨by rfl, ?_⟩) ?_ ?_
  rotate_left
  · intro w'
    go_simp
    with_reducible rfl
  rotate_left
  · simp only [Act.put, List.setIfInBounds_toArray, List.set_cons_zero, List.set_cons_succ, i64_w, i32_w]
    rfl
  refine pure_ (i := 1) (N := (some 21)) (v := ?_) (a' := ?_) #[true, true, false, false, false, false, false, false] rfl rfl (any_of HT_.out (by kernel_rfl)) (fun _ _ _ h => h) (Or.inl ⟨by rfl, ?_⟩) ?_ ?_
  rotate_left
  · intro w'
    go_simp
    with_reducible rfl
  rotate_left
  · simp only [Act.put, List.setIfInBounds_toArray, List.set_cons_zero, List.set_cons_succ, i64_w, i32_w]
    rfl
  refine pure_ (i := 2) (N := (some 22)) (v := ?_) (a' := ?_) #[true, true, true, false, false, false, false, false] rfl rfl (any_of HT_.out (by kernel_rfl)) (fun _ _ _ h => h) (Or.inl ⟨by rfl, ?_⟩) ?_ ?_
  rotate_left
  · intro w'
    go_simp
    with_reducible rfl
  rotate_left
  · simp only [Act.put, List.setIfInBounds_toArray, List.set_cons_zero, List.set_cons_succ, i64_w, i32_w]
    rfl
  refine pure_ (i := 3) (N := (some 23)) (v := ?_) (a' := ?_) #[true, true, true, true, false, false, false, false] rfl rfl (any_of HT_.out (by kernel_rfl)) (fun _ _ _ h => h) (Or.inl ⟨by rfl, ?_⟩) ?_ ?_
  rotate_left
  · intro w'
    go_simp
    with_reducible rfl
  rotate_left
  · simp only [Act.put, List.setIfInBounds_toArray, List.set_cons_zero, List.set_cons_succ, i64_w, i32_w]
    rfl
  refine pure_ (i := 4) (N := (some 24)) (v := ?_) (a' := ?_) #[true, true, true, true, true, false, false, false] rfl rfl (any_of HT_.out (by kernel_rfl)) (fun _ _ _ h => h) (Or.inl ⟨by rfl, ?_⟩) ?_ ?_
  rotate_left
  · intro w'
    go_simp
    with_reducible rfl
  rotate_left
  · simp only [Act.put, List.setIfInBounds_toArray, List.set_cons_zero, List.set_cons_succ, i64_w, i32_w]
    rfl
  refine pure_ (i := 5) (N := (some 25)) (v := ?_) (a' := ?_) #[true, true, true, true, true, true, false, false] rfl rfl (any_of HT_.out (by kernel_rfl)) (fun _ _ _ h => h) (Or.inl ⟨by rfl, ?_⟩) ?_ ?_
  rotate_left
  · intro w'
    go_simp
    with_reducible rfl
  rotate_left
  · simp only [Act.put, List.setIfInBounds_toArray, List.set_cons_zero, List.set_cons_succ, i64_w, i32_w]
    rfl
  refine one_ (i := 6) (N := (some 26)) #[true, true, true, true, true, true, true, false] rfl rfl (one_of HT_.out (by kernel_rfl)) (by decide) (fun K hK => ?_)
  refine Kd.R_delete_step k70 (w0 := w.drew) base (by rfl) (.tmp 22) (.tmp 25) 48 70 rfl Try.underlying48 size70 (k := i) (n := n) (c := c) (m := n - (i + 1)) (c2 := c - (i + 1)) (A := if c = i + 1 then some ⟨g, 0, none⟩ else some ⟨g, (i + 1) * 2, none⟩) (by rfl) (by rfl) (by show _ = if c = i + 1 then some (⟨g, 0, none⟩ : Addr) else some (Addr.add ⟨g, 0, none⟩ ((i + 1) * 2)); simp [Addr.add]) rfl HW.out hi (Below.refl base w.drew) hbw ?_
  intro w1 hR hBl hG
  refine hK.out _ _ trivial (fun hHeld => ?_)
  clear hK K
  have HR1 := hd hR
  have HG1 : Hd (w.grownBy w1 (some g)) := hd ⟨hG.os, hG.tape, hG.output, hG.size, hG.block⟩
  clear hR hBl hG HW hca hcb1 hcb2
  refine norm_ (a' := ?_) ?_ ?_
  rotate_left
  · show Act.put _ (some 26) _ = _
    simp only [Act.put, List.setIfInBounds_toArray, List.set_cons_zero, List.set_cons_succ, i64_w, i32_w]
    rfl
  refine pure_ (i := 7) (N := (some 0)) (v := ?_) (a' := ?_) #[true, true, true, true, true, true, true, true] rfl rfl (any_of HT_.out (by kernel_rfl)) (fun _ _ _ h => h) (Or.inl ⟨by rfl, ?_⟩) ?_ ?_
  rotate_left
  · intro w'
    go_simp
    with_reducible rfl
  rotate_left
  · simp only [Act.put, List.setIfInBounds_toArray, List.set_cons_zero, List.set_cons_succ, i64_w, i32_w]
    rfl
  refine done_ (done_of HT_.out (by kernel_rfl)) ?_
  clear HT_ HW_
  generalize (if c = i + 1 then some (⟨g, 0, none⟩ : Addr) else some ⟨g, (i + 1) * 2, none⟩) = A9
  obtain ⟨cur, hcur, hcl0, _, _⟩ := R_block HR1.out
  have hcl : cur.length = c * 2 := hcl0
  clear hcl0
  have HC := hd hcur
  have hcn : ¬ c = n - 1 := by omega
  have HFI : Hd ((n - 1) * 2 + (n - (n - 1)) * 2 ≤ cur.length) := hd (by rw [hcl]; omega)
  have HCL := hd hcl
  clear hcur hcl
  have hn1 : n - 1 + 1 = n := by omega
  have hcs1 : (0 : Int) ≤ ((n - 1 : Nat) : Int) := by omega
  have hcs2 : ((n - 1 : Nat) : Int) ≤ (n : Int) := by omega
  have hcs3 : (n : Int) ≤ (c : Int) := by omega
  go_wp2_with (refine wpList_clear_k rfl _ 48 rfl 70 (.agg #[.int .i64 0, .slice none 0 0]) 2 Try.underlying48 (fun W => by kernel_rfl) rfl (by decide) g ((n - 1) * 2) (n - (n - 1)) (c - (n - 1)) rfl cur 70 HC.out HFI.out ?_; intro w3 zs Z1 Z2 Z3)
  go_wp2
  go_ret
  refine ⟨rfl, R_cleared HR1.out HC.out Z1.out (Nat.le_refl _) (by rw [Z2.out]; exact HFI.out) Z3.out, grownBy_trans HG1.out Z3.out⟩
end Go.Proofs.Ytafnjlgdjhegaaa.Pr
end
section
namespace Go.Proofs.Ytafnjlgdjhegaaa.Pr
open Go.RowKit Go.Proofs.YtafnjlgdjhegaaaW.PrintWords Go.Proofs.YtafnjlgdjhegaaaW.PrintLast Go.Proofs.YtafnjlgdjhegaaaW.PrintMore Go.Proofs.YtafnjlgdjhegaaaG
set_option linter.unusedVariables false
set_option linter.unusedSimpArgs false
/-- The waits without a request's. -/
def takeL (l : List S70) (rq : Int) : List S70 := l.filter fun x => !decide (x.f0 = rq)
def hasL (l : List S70) (rq : Int) : Bool := l.any fun x => decide (x.f0 = rq)
/-- What Take tells. -/
def takeS (id nx ak : Int) (l : List S70) (rq : Int) : Int × Int × Int × List S70 × Bool × Int :=
  if askerB id nx ak l = true then (id, nx, ackP nx (takeL l rq), takeL l rq, hasL l rq, 0) else (0, 0, 0, [], false, 2)
theorem rises_get : ∀ (T : List Int) (a : Int), rises a T = true → (∀ j, j < T.length → a < T.getD j 0) ∧ ∀ i j, i < j → j < T.length → T.getD i 0 < T.getD j 0
  | [], a, _ => ⟨fun j h => by simp at h, fun i j _ h => by simp at h⟩
  | x :: T, a, h => by
    have hh : a < x ∧ rises x T = true := by
      simp only [rises, Bool.and_eq_true, Bool.not_eq_true', decide_eq_false_iff_not] at h
      exact ⟨by omega, h.2⟩
    obtain ⟨i1, i2⟩ := rises_get T x hh.2
    refine ⟨fun j hj => ?_, fun i j hij hj => ?_⟩
    · cases j with
      | zero => simpa using hh.1
      | succ j =>
        have := i1 j (by simpa using hj)
        simp only [List.getD_cons_succ]
        omega
    · cases j with
      | zero => omega
      | succ j =>
        cases i with
        | zero =>
          have := i1 j (by simpa using hj)
          simpa using this
        | succ i =>
          have := i2 i j (by omega) (by simpa using hj)
          simpa using this
theorem map_getD (l : List S70) (j : Nat) (h : j < l.length) : (l.map S70.f0).getD j 0 = (l[j]).f0 := by simp [List.getD_eq_getElem?_getD, h]
/-- What was found, told by the elements alone. -/
theorem found_has {l : List S70} {rq : Int} {i : Nat} {b : Bool} (hr : rises 0 (l.map S70.f0) = true) (hf : Found (l.map S70.f0) rq i b) : b = hasL l rq ∧ (b = true → i < l.length ∧ l.eraseIdx i = takeL l rq) ∧ (b = false → l = takeL l rq) := by
  obtain ⟨hr1, hr2⟩ := rises_get _ _ hr
  rw [List.length_map] at hr1 hr2
  obtain ⟨f1, f2, f3⟩ := hf
  rw [List.length_map] at f1 f2 f3
  have hhas : hasL l rq = true ↔ ∃ j, ∃ h : j < l.length, (l[j]).f0 = rq := by
    unfold hasL
    rw [List.any_eq_true]
    constructor
    · rintro ⟨x, hx, he⟩
      obtain ⟨j, hj, rfl⟩ := List.mem_iff_getElem.1 hx
      exact ⟨j, hj, by simpa using he⟩
    · rintro ⟨j, hj, he⟩
      exact ⟨l[j], List.getElem_mem hj, by simpa using he⟩
  have hb : b = true ↔ hasL l rq = true := by
    rw [f2, hhas]
    constructor
    · rintro ⟨h1, h2⟩
      rw [map_getD l i h1] at h2
      exact ⟨i, h1, h2⟩
    · rintro ⟨j, hj, he⟩
      have hp := hr1 j hj
      rw [map_getD l j hj] at hp
      obtain ⟨g1, g2⟩ := f3 hr (by omega)
      have hij : i ≤ j := by
        rcases Nat.lt_or_ge j i with h | h
        · have := g1 j h
          rw [map_getD l j hj] at this
          omega
        · exact h
      have hi : i < l.length := by omega
      have h1 := g2 i (Nat.le_refl _) hi
      rcases Nat.lt_or_ge i j with h | h
      · have h2 := hr2 i j h hj
        rw [map_getD l j hj] at h2
        omega
      · have e : i = j := by omega
        subst e
        exact ⟨hj, by rw [map_getD l i hj]; exact he⟩
  refine ⟨?_, fun ht => ?_, fun hff => ?_⟩
  · cases b <;> cases h : hasL l rq <;> simp_all
  · obtain ⟨h1, h2⟩ := f2.1 ht
    refine ⟨h1, ?_⟩
    rw [map_getD l i h1] at h2
    have e : l = l.take i ++ l[i] :: l.drop (i + 1) := by rw [← List.drop_eq_getElem_cons h1, List.take_append_drop]
    have k1 : ∀ x ∈ l.take i, ¬ x.f0 = rq := by
      intro x hx he
      obtain ⟨j, hj, rfl⟩ := List.mem_iff_getElem.1 hx
      rw [List.length_take] at hj
      rw [List.getElem_take] at he
      have := hr2 j i (by omega) h1
      rw [map_getD l i h1, map_getD l j (by omega)] at this
      omega
    have k2 : ∀ x ∈ l.drop (i + 1), ¬ x.f0 = rq := by
      intro x hx he
      obtain ⟨j, hj, rfl⟩ := List.mem_iff_getElem.1 hx
      rw [List.length_drop] at hj
      rw [List.getElem_drop] at he
      have := hr2 i (i + 1 + j) (by omega) (by omega)
      rw [map_getD l i h1, map_getD l (i + 1 + j) (by omega)] at this
      omega
    unfold takeL
    conv => rhs; rw [e]
    rw [List.filter_append, List.filter_cons, if_neg (by simp [h2]), List.filter_eq_self.2 (fun x hx => by simp [k1 x hx]), List.filter_eq_self.2 (fun x hx => by simp [k2 x hx]), List.eraseIdx_eq_take_drop_succ]
  · unfold takeL
    symm
    refine List.filter_eq_self.2 fun x hx => ?_
    have hn : ¬ hasL l rq = true := fun h => by rw [hff] at hb; exact absurd (hb.2 h) (by simp)
    rw [hhas] at hn
    obtain ⟨j, hj, rfl⟩ := List.mem_iff_getElem.1 hx
    have : ¬ (l[j]).f0 = rq := fun he => hn ⟨j, hj, he⟩
    simp [this]
theorem acked_mem (id nx ak : Int) (l : List S70) (h1 : 1 ≤ nx) (h2 : nx ≤ 4611686018427387904) (hm : ∀ x ∈ l, 0 < x.f0 ∧ x.f0 ≤ 4611686018427387904) : session_acked.f id nx ak l = some (ackP nx l) := by
  cases l with
  | nil =>
    simp only [session_acked.f, ackP, List.length_nil]
    rw [if_neg (by simp)]
    congr 1
    unfold wrap64
    omega
  | cons x l =>
    have hx := hm x (by simp)
    simp only [session_acked.f, ackP, List.length_cons]
    rw [if_pos (by omega), if_pos (by omega)]
    congr 1
    have e : (rd_T70 (x :: l) 0).f0 = x.f0 := rfl
    rw [e]
    unfold wrap64
    omega
theorem asker_parts {id nx ak : Int} {l : List S70} (h : askerB id nx ak l = true) : (1 ≤ nx ∧ nx ≤ 4611686018427387904) ∧ rises 0 (l.map S70.f0) = true := by
  unfold askerB at h
  simp only [Bool.and_eq_true, decide_eq_true_eq] at h
  exact ⟨⟨h.1.1.1.1.1.2, h.1.1.1.1.2⟩, h.1.1.1.2⟩
theorem take_acked {id nx ak : Int} {l : List S70} (h : askerB id nx ak l = true) (rq : Int) : session_acked.f id nx ak (takeL l rq) = some (ackP nx (takeL l rq)) := by
  obtain ⟨⟨h1, h2⟩, h3⟩ := asker_parts h
  refine acked_mem _ _ _ _ h1 h2 fun x hx => ?_
  have hx' : x ∈ l := (List.mem_filter.1 hx).1
  have := rises_mem h3 x.f0 (List.mem_map.2 ⟨x, hx', rfl⟩)
  exact this
theorem holdT {p} (h : Hd p) : p := h.out
set_option maxRecDepth 100000 in
set_option maxHeartbeats 2000000 in
theorem take_R (id nx ak rq : Int) (A : Option Addr) (c : Nat) (l : List S70) (k : Nat) (w : World) (hr : Kd.C k70 w A l.length l) (hc : l.length ≤ c) (hak : i64 ak) (hrq : i64 rq) (hl : l.length < 4398046511104) (hw : session_waits.f k l = some l) :
    Calls Try.prog 23 #[.agg #[.int .i64 id, .int .i64 nx, .int .i64 ak, .slice A l.length c], .int .i64 rq] w fun e w' => ∃ A' c', e = .returned (.tuple #[.agg #[.int .i64 (takeS id nx ak l rq).1, .int .i64 (takeS id nx ak l rq).2.1, .int .i64 (takeS id nx ak l rq).2.2.1, .slice A' (takeS id nx ak l rq).2.2.2.1.length c'], .bool (takeS id nx ak l rq).2.2.2.2.1, .int .i64 (takeS id nx ak l rq).2.2.2.2.2]) ∧
      (∃ base : Nat, Kd.R k70 70 w' base (fun k_ => w.heap.size ≤ k_) (.slice A' (takeS id nx ak l rq).2.2.2.1.length c') (takeS id nx ak l rq).2.2.2.1) ∧ Below w.heap.size w w' := by
  have hu50 := Try.underlying50
  have HC0 := hd hr
  have HCC := hd hc
  have HWT := hd hw
  clear hr hc hw
  go_enter Try.func23, Try.ntmps23
  go_wp2_with (first | ((with_reducible refine gate_dst (N := 2) rfl ?_); refine box_event ?hg (N := 2) ?hd (cs := #[.int .i64 id, .int .i64 nx, .int .i64 ak, .slice A l.length c]) (t := 50) ?hr ?_; (case hd => rfl); (case hg => rfl); (case hr => first | (go_simp; done) | (go_simp; rfl)); intro g2 hg w1 hbox hb; have HG2 : Hd (w.heap.size ≤ g2) := hd (by omega); have HX2 := hd hbox; have HB := hd hb; clear hg hbox hb) | ((with_reducible refine gate_dst (N := 4) rfl ?_); refine box_event ?hg (N := 4) ?hd (cs := #[.int .i64 0, .int .i64 0, .int .i64 0, .slice none 0 0]) (t := 50) ?hr ?_; (case hd => rfl); (case hg => rfl); (case hr => first | (go_simp; done) | (go_simp; rfl)); intro g4 hg w2 hbox hb; have HG4 : Hd (w.heap.size ≤ g4 ∧ g2 < g4) := hd ⟨by have := HB.out.size; omega, by have := blk_lt HX2.out; omega⟩; have HX4 := hd hbox; replace HX2 := hd (blk_below HX2.out hb); replace HB : Hd (Below w.heap.size w w2) := hd (below_then HB.out HB.out.size hb); clear hg hbox hb; refine holdT ?_))
  refine ⟨?_⟩
  have HNE : Hd (g4 ≠ g2) := hd (by have := HG4.out.2; omega)
  have c0 := (blk_cell HX2.out 0).trans rfl
  have c1 := (blk_cell HX2.out 1).trans rfl
  have c2 := (blk_cell HX2.out 2).trans rfl
  have c3 := (blk_cell HX2.out 3).trans rfl
  go_wp2_with fail
  refine (asker_any id nx ak A c l w2 (Kd.C_below HC0.out HB.out) HCC.out hak).mono ?_
  rintro e w3 ⟨rfl, b⟩
  replace HX2 := hd (blk_below HX2.out b)
  replace HX4 := hd (blk_below HX4.out b)
  replace HB : Hd (Below w.heap.size w w3) := hd (below_then HB.out HB.out.size b)
  clear b c0 c1 c2 c3
  obtain ⟨rb, hrb⟩ : ∃ b, askerB id nx ak l = b := ⟨_, rfl⟩
  rw [hrb]
  have HRB := hd hrb
  clear hrb
  cases rb with
  | false =>
    have HE : Hd (takeS id nx ak l rq = (0, 0, 0, [], false, 2)) := hd (by unfold takeS; rw [HRB.out]; rfl)
    go_wp2_with ((with_reducible refine gate_store (t := 50) (p := 4) rfl ?_); refine wpList_store_row rfl 50 (.tmp 4) (.tmp 12) rfl g4 #[.int .i64 0, .int .i64 0, .int .i64 0, .slice none 0 0] rfl rfl 50 _ HX4.out (by kernel_rfl) rfl (by simp [Value.oneCell']) ?_)
    refine bodyPost_ret (results_ctt rfl _ _ g4 50 #[.int .i64 0, .int .i64 0, .int .i64 0, .slice none 0 0] (0, 0) _ rfl (setRow_heap _ _ _ _ _ _ HX4.out) Try.underlying50 rfl (by kernel_rfl)) rfl ?_
    exact ⟨none, 0, by rw [HE.out]; rfl, by rw [HE.out]; exact ⟨0, Kd.R_nil _ _ _ _ _⟩, below_setRow HB.out HG4.out.1 _⟩
  | true =>
    have HE : Hd (takeS id nx ak l rq = (id, nx, ackP nx (takeL l rq), takeL l rq, hasL l rq, 0)) := hd (by unfold takeS; rw [if_pos HRB.out])
    have HACK := hd (take_acked HRB.out rq)
    have HRI := hd (asker_parts HRB.out).2
    have HZ3 : Hd (g4 < w3.heap.size) := hd (blk_lt HX4.out)
    have c3 := (blk_cell HX2.out 3).trans rfl
    have hfz := blk_frozen HX2.out 3
    go_wp2_with fail
    refine (session_waits.calls k A c l l w3 (Kd.C_below HC0.out HB.out) HCC.out HWT.out).mono ?_
    rintro e w4 ⟨v4, rfl, hS, b⟩
    have HR4 := hd (Kd.R_mono (Kd.R_bound (Kd.S_R hS)) (ok' := fun k_ => w3.heap.size ≤ k_) fun k_ hk => hk.2.1)
    replace HX2 := hd (blk_below HX2.out b)
    replace HX4 := hd (blk_below HX4.out b)
    replace HB : Hd (Below w.heap.size w w4) := hd (below_then HB.out HB.out.size b)
    have HLT : Hd (∀ k_, w3.heap.size ≤ k_ → g4 < k_ ∧ g2 < k_) := hd fun k_ hk => by have h1 := HZ3.out; have h2 := HG4.out.2; omega
    have HZ4 : Hd (w3.heap.size ≤ w4.heap.size) := hd b.size
    obtain ⟨A4, c4, rfl⟩ := Kd.R_slice HR4.out
    clear b hS c3 hfz
    have c3 := (blk_cell HX2.out 3).trans rfl
    have hfz := blk_frozen HX2.out 3
    go_upto_region 4 with (fail)
    replace HX2 := hd (blk_put HX2.out 3 (.slice A4 l.length c4) rfl)
    replace HX4 := hd (blk_far (p := ⟨g2, 3, none⟩) HX4.out HNE.out (.slice A4 l.length c4))
    replace HB : Hd (Below w.heap.size w (w4.setCell ⟨g2, 3, none⟩ (.slice A4 l.length c4))) := hd (below_set HB.out HG2.out)
    replace HR4 := hd (Kd.R_far (p := ⟨g2, 3, none⟩) HR4.out (fun k_ hk => Nat.ne_of_gt (HLT.out k_ hk).2) (.slice A4 l.length c4))
    have HZ5 : Hd (w3.heap.size ≤ (w4.setCell ⟨g2, 3, none⟩ (.slice A4 l.length c4)).heap.size) := hd (by have := HZ4.out; simpa [World.setCell] using this)
    clear c3 hfz
    generalize w4.setCell ⟨g2, 3, none⟩ (.slice A4 l.length c4) = w5 at HX2 HX4 HB HR4 HZ5 ⊢
    have c3 := (blk_cell HX2.out 3).trans rfl
    go_wp2_with fail
    obtain ⟨hrn, hrc, hrC⟩ := Kd.R_reads' HR4.out
    refine (place70_any A4 c4 l rq w5 hrC (fun x hx => by have := rises_mem HRI.out x hx; exact ⟨by omega, by omega⟩) hrq).mono ?_
    rintro e w6 ⟨i, b, rfl, hf, hb⟩
    replace HX2 := hd (blk_below HX2.out hb)
    replace HX4 := hd (blk_below HX4.out hb)
    replace HB : Hd (Below w.heap.size w w6) := hd (below_then HB.out HB.out.size hb)
    replace HR4 := hd (Kd.R_below HR4.out hb)
    have HZ6 : Hd (w3.heap.size ≤ w6.heap.size) := hd (by have := hb.size; have := HZ5.out; omega)
    obtain ⟨p1, p2, p3⟩ := found_has HRI.out hf
    rw [← p1] at HE
    clear hb c3 hrC hf p1
    cases b with
    | true =>
      obtain ⟨hi, he⟩ := p2 rfl
      clear p2 p3
      have HEI := hd he
      clear he
      obtain ⟨ad, rfl, _⟩ := (Kd.R_reads' HR4.out).2.2.2.2 (by omega)
      obtain ⟨g, rfl⟩ := Kd.R_head HR4.out
      have HGB : Hd (w3.heap.size ≤ g) := hd (HR4.out.1 g rfl)
      have c3 := (blk_cell HX2.out 3).trans rfl
      have hw1 : wrap64 ((i : Int) + 1) = ((i + 1 : Nat) : Int) := by unfold wrap64; omega
      go_wp2_with fail
      clear hw1
      refine (del70_any w3.heap.size g c4 l.length i (fun k_ => w3.heap.size ≤ k_) l w6 HR4.out hi HZ6.out (by omega)).mono ?_
      rintro e w7 ⟨rfl, hR, hg⟩
      rw [HEI.out] at hR
      have HR7 := hd hR
      replace HX2 := hd ((hg.block g2 (blk_lt HX2.out) (fun e => by have := (HLT.out g HGB.out).2; injection e with e; omega)).trans HX2.out)
      replace HX4 := hd ((hg.block g4 (blk_lt HX4.out) (fun e => by have := (HLT.out g HGB.out).1; injection e with e; omega)).trans HX4.out)
      replace HB : Hd (Below w.heap.size w w7) := hd (HB.out.grown hg HB.out.size (fun k_ hk => by injection hk with hk; subst hk; have := (HLT.out g HGB.out).2; have := HG2.out; omega))
      clear hR hg c3 HR4
      have c3 := (blk_cell HX2.out 3).trans rfl
      have hfz := blk_frozen HX2.out 3
      go_upto_region 7 with (fail)
      have HX2' := hd (blk_put HX2.out 3 (.slice (some ⟨g, 0, none⟩) (l.length - 1) c4) rfl)
      have HX4' := hd (blk_far (p := ⟨g2, 3, none⟩) HX4.out HNE.out (.slice (some ⟨g, 0, none⟩) (l.length - 1) c4))
      have HB' : Hd (Below w.heap.size w (w7.setCell ⟨g2, 3, none⟩ (.slice (some ⟨g, 0, none⟩) (l.length - 1) c4))) := hd (below_set HB.out HG2.out)
      have HR' := hd (Kd.R_far (p := ⟨g2, 3, none⟩) HR7.out (fun k_ hk => Nat.ne_of_gt (HLT.out k_ hk).2) (.slice (some ⟨g, 0, none⟩) (l.length - 1) c4))
      clear HX2 HX4 HB HR7 c3 hfz
      have HX2 := HX2'
      have HX4 := HX4'
      have HB := HB'
      have HR := HR'
      clear HX2' HX4' HB' HR'
      generalize w7.setCell ⟨g2, 3, none⟩ (.slice (some ⟨g, 0, none⟩) (l.length - 1) c4) = w8 at HX2 HX4 HB HR ⊢
      have hrn := (Kd.R_reads' HR.out).1
      rw [hrn] at HX2 HR ⊢
      clear hrn
      have c0 := (blk_cell HX2.out 0).trans rfl
      have c1 := (blk_cell HX2.out 1).trans rfl
      have c2 := (blk_cell HX2.out 2).trans rfl
      have c3 := (blk_cell HX2.out 3).trans rfl
      have hfz := blk_frozen HX2.out 2
      go_wp2_with fail
      obtain ⟨hrn, hrc, hrC⟩ := Kd.R_reads' HR.out
      refine (session_acked.calls id nx ak _ _ (takeL l rq) (ackP nx (takeL l rq)) w8 hrC hrc HACK.out).mono ?_
      rintro e w20 ⟨rfl, b⟩
      have HX2' := hd (blk_below HX2.out b)
      have HX4' := hd (blk_below HX4.out b)
      have HB' : Hd (Below w.heap.size w w20) := hd (below_then HB.out HB.out.size b)
      have HR' := hd (Kd.R_below HR.out b)
      clear b c0 c1 c2 c3 hfz HX2 HX4 HB HR hrC
      have c0 := (blk_cell HX2'.out 0).trans rfl
      have c1 := (blk_cell HX2'.out 1).trans rfl
      have c2 := (blk_cell HX2'.out 2).trans rfl
      have c3 := (blk_cell HX2'.out 3).trans rfl
      have hfz := blk_frozen HX2'.out 2
      go_upto_region 8 with (fail)
      have HX2 := hd (blk_put HX2'.out 2 (.int .i64 (ackP nx (takeL l rq))) rfl)
      have HX4 := hd (blk_far (p := ⟨g2, 2, none⟩) HX4'.out HNE.out (.int .i64 (ackP nx (takeL l rq))))
      have HB : Hd (Below w.heap.size w (w20.setCell ⟨g2, 2, none⟩ (.int .i64 (ackP nx (takeL l rq))))) := hd (below_set HB'.out HG2.out)
      have HR := hd (Kd.R_far (p := ⟨g2, 2, none⟩) HR'.out (fun k_ hk => Nat.ne_of_gt (HLT.out k_ hk).2) (.int .i64 (ackP nx (takeL l rq))))
      clear HX2' HX4' HB' HR' c0 c1 c2 c3 hfz
      generalize w20.setCell ⟨g2, 2, none⟩ (.int .i64 (ackP nx (takeL l rq))) = w21 at HX2 HX4 HB HR ⊢
      have c0 := (blk_cell HX2.out 0).trans rfl
      have c1 := (blk_cell HX2.out 1).trans rfl
      have c2 := (blk_cell HX2.out 2).trans rfl
      have c3 := (blk_cell HX2.out 3).trans rfl
      go_wp2_with ((with_reducible refine gate_store (t := 50) (p := 4) rfl ?_); refine wpList_store_row rfl 50 (.tmp 4) (.tmp 35) rfl g4 #[.int .i64 id, .int .i64 nx, .int .i64 (ackP nx (takeL l rq)), (.slice (some ⟨g, 0, none⟩) (takeL l rq).length c4)] rfl rfl 50 _ HX4.out (by kernel_rfl) rfl (by simp [Value.oneCell']) ?_)
      refine bodyPost_ret (results_ctt rfl _ _ g4 50 #[.int .i64 id, .int .i64 nx, .int .i64 (ackP nx (takeL l rq)), (.slice (some ⟨g, 0, none⟩) (takeL l rq).length c4)] (0, 0) _ rfl (setRow_heap _ _ _ _ _ _ HX4.out) Try.underlying50 rfl (by kernel_rfl)) rfl ?_
      have HRZ := Kd.R_step (w1 := w21.setRow g4 #[.int .i64 id, .int .i64 nx, .int .i64 (ackP nx (takeL l rq)), (.slice (some ⟨g, 0, none⟩) (takeL l rq).length c4)]) HR.out (fun k hk hl => setRow_other _ _ _ _ (fun e => by have := (HLT.out k hk).1; omega))
      exact ⟨_, _, by rw [HE.out]; rfl, by rw [HE.out]; exact ⟨_, Kd.R_mono HRZ (fun k_ hk => by have h1 := (HLT.out k_ hk).1; have h2 := HG4.out.1; omega)⟩, below_setRow HB.out HG4.out.1 _⟩
    | false =>
      have he := p3 rfl
      clear p2 p3
      have hrn : l.length = (takeL l rq).length := congrArg List.length he
      have HR := hd (show Kd.R k70 70 w6 w3.heap.size (fun k_ => w3.heap.size ≤ k_) (.slice A4 l.length c4) (takeL l rq) by rw [← he]; exact HR4.out)
      clear HR4 he
      rw [hrn] at HX2 HR ⊢
      clear hrn
      go_upto_region 7 with (fail)
      have c0 := (blk_cell HX2.out 0).trans rfl
      have c1 := (blk_cell HX2.out 1).trans rfl
      have c2 := (blk_cell HX2.out 2).trans rfl
      have c3 := (blk_cell HX2.out 3).trans rfl
      have hfz := blk_frozen HX2.out 2
      go_wp2_with fail
      obtain ⟨hrn, hrc, hrC⟩ := Kd.R_reads' HR.out
      refine (session_acked.calls id nx ak _ _ (takeL l rq) (ackP nx (takeL l rq)) w6 hrC hrc HACK.out).mono ?_
      rintro e w20 ⟨rfl, b⟩
      have HX2' := hd (blk_below HX2.out b)
      have HX4' := hd (blk_below HX4.out b)
      have HB' : Hd (Below w.heap.size w w20) := hd (below_then HB.out HB.out.size b)
      have HR' := hd (Kd.R_below HR.out b)
      clear b c0 c1 c2 c3 hfz HX2 HX4 HB HR hrC
      have c0 := (blk_cell HX2'.out 0).trans rfl
      have c1 := (blk_cell HX2'.out 1).trans rfl
      have c2 := (blk_cell HX2'.out 2).trans rfl
      have c3 := (blk_cell HX2'.out 3).trans rfl
      have hfz := blk_frozen HX2'.out 2
      go_upto_region 8 with (fail)
      have HX2 := hd (blk_put HX2'.out 2 (.int .i64 (ackP nx (takeL l rq))) rfl)
      have HX4 := hd (blk_far (p := ⟨g2, 2, none⟩) HX4'.out HNE.out (.int .i64 (ackP nx (takeL l rq))))
      have HB : Hd (Below w.heap.size w (w20.setCell ⟨g2, 2, none⟩ (.int .i64 (ackP nx (takeL l rq))))) := hd (below_set HB'.out HG2.out)
      have HR := hd (Kd.R_far (p := ⟨g2, 2, none⟩) HR'.out (fun k_ hk => Nat.ne_of_gt (HLT.out k_ hk).2) (.int .i64 (ackP nx (takeL l rq))))
      clear HX2' HX4' HB' HR' c0 c1 c2 c3 hfz
      generalize w20.setCell ⟨g2, 2, none⟩ (.int .i64 (ackP nx (takeL l rq))) = w21 at HX2 HX4 HB HR ⊢
      have c0 := (blk_cell HX2.out 0).trans rfl
      have c1 := (blk_cell HX2.out 1).trans rfl
      have c2 := (blk_cell HX2.out 2).trans rfl
      have c3 := (blk_cell HX2.out 3).trans rfl
      go_wp2_with ((with_reducible refine gate_store (t := 50) (p := 4) rfl ?_); refine wpList_store_row rfl 50 (.tmp 4) (.tmp 35) rfl g4 #[.int .i64 id, .int .i64 nx, .int .i64 (ackP nx (takeL l rq)), (.slice A4 (takeL l rq).length c4)] rfl rfl 50 _ HX4.out (by kernel_rfl) rfl (by simp [Value.oneCell']) ?_)
      refine bodyPost_ret (results_ctt rfl _ _ g4 50 #[.int .i64 id, .int .i64 nx, .int .i64 (ackP nx (takeL l rq)), (.slice A4 (takeL l rq).length c4)] (0, 0) _ rfl (setRow_heap _ _ _ _ _ _ HX4.out) Try.underlying50 rfl (by kernel_rfl)) rfl ?_
      have HRZ := Kd.R_step (w1 := w21.setRow g4 #[.int .i64 id, .int .i64 nx, .int .i64 (ackP nx (takeL l rq)), (.slice A4 (takeL l rq).length c4)]) HR.out (fun k hk hl => setRow_other _ _ _ _ (fun e => by have := (HLT.out k hk).1; omega))
      exact ⟨_, _, by rw [HE.out]; rfl, by rw [HE.out]; exact ⟨_, Kd.R_mono HRZ (fun k_ hk => by have h1 := (HLT.out k_ hk).1; have h2 := HG4.out.1; omega)⟩, below_setRow HB.out HG4.out.1 _⟩
theorem take_any (id nx ak rq : Int) (A : Option Addr) (c : Nat) (l : List S70) (k : Nat) (w : World) (hr : Kd.C k70 w A l.length l) (hc : l.length ≤ c) (hak : i64 ak) (hrq : i64 rq) (hl : l.length < 4398046511104) (hw : session_waits.f k l = some l) :
    Calls Try.prog 23 #[.agg #[.int .i64 id, .int .i64 nx, .int .i64 ak, .slice A l.length c], .int .i64 rq] w fun e w' => ∃ A' c', e = .returned (.tuple #[.agg #[.int .i64 (takeS id nx ak l rq).1, .int .i64 (takeS id nx ak l rq).2.1, .int .i64 (takeS id nx ak l rq).2.2.1, .slice A' (takeS id nx ak l rq).2.2.2.1.length c'], .bool (takeS id nx ak l rq).2.2.2.2.1, .int .i64 (takeS id nx ak l rq).2.2.2.2.2]) ∧
      (takeS id nx ak l rq).2.2.2.1.length ≤ c' ∧ Kd.C k70 w' A' (takeS id nx ak l rq).2.2.2.1.length (takeS id nx ak l rq).2.2.2.1 ∧ Below w.heap.size w w' := by
  refine (take_R id nx ak rq A c l k w hr hc hak hrq hl hw).mono ?_
  rintro e w' ⟨A', c', h1, ⟨base, h2⟩, h3⟩
  obtain ⟨_, hrc, hrC⟩ := Kd.R_reads' h2
  exact ⟨A', c', h1, hrc, hrC, h3⟩
end Go.Proofs.Ytafnjlgdjhegaaa.Pr
end
