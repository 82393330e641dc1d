/-
  slices.Delete of one wait out of a row of one's own.
-/
import Derived.Test.YtafnjlgdjhegaaaPr0
import Derived.Test.YtafnjlgdjhegaaaG
namespace Go.Proofs.Ytafnjlgdjhegaaa.Pr
open Go.RowKit Go.Proofs.YtafnjlgdjhegaaaW.PrintWords Go.Proofs.YtafnjlgdjhegaaaW.PrintLast Go.Proofs.YtafnjlgdjhegaaaW.PrintMore Go.Proofs.YtafnjlgdjhegaaaG
set_option linter.unusedVariables false
set_option linter.unusedSimpArgs false
theorem R_cleared {α : Type} {d : Kd α} {e base g m c off : Nat} {w w' : World} {ok : Nat → Prop} {xs : List α} {cur zs : List Value} (h : d.R e w base ok (.slice (some ⟨g, 0, none⟩) m c) xs) (hg : w.heap[g]? = some (.cells cur.toArray e (0, 0)))
    (hg' : w'.heap[g]? = some (.cells (splice cur off zs).toArray e (0, 0))) (hoff : m * d.sz ≤ off) (hfit : off + zs.length ≤ cur.length) (hgr : w.grownBy w' (some g)) : d.R e w' base ok (.slice (some ⟨g, 0, none⟩) m c) xs := by
  have hm : m = xs.length := (Kd.R_reads' h).1
  obtain ⟨h0, inner, ho, hr⟩ := h
  refine ⟨h0, inner, ?_, hr.1, fun j p hp => Kd.M_grown (hr.2 j p hp) hgr (fun k hk e => hk.2 (by simpa [Value.ownBlock] using e))⟩
  rcases ho.2 with ⟨hv, _⟩ | ⟨g', cap', cur', hv, hb, hh, h1, h2, h3, h4⟩
  · cases hv
  · simp only [Value.slice.injEq, Option.some.injEq, Addr.mk.injEq, and_true, true_and] at hv
    obtain ⟨rfl, hmm, rfl⟩ := hv
    rw [hg] at hh
    simp only [Option.some.injEq, Obj.cells.injEq, and_true] at hh
    subst hh
    refine ⟨ho.1, .inr ⟨g, c, (splice cur off zs).toArray, by rw [hmm], hb, hg', h1, h2, ?_, ?_⟩⟩
    · rw [← h3]
      simp [length_splice _ _ _ hfit]
    · rw [← h4]
      simp only
      unfold splice
      rw [List.take_append_of_le_length (by rw [List.length_take]; rw [← hm]; omega), List.take_take]
      congr 1
      rw [← hm]
      omega
theorem R_block {α : Type} {d : Kd α} {e base g m c : Nat} {w : World} {ok : Nat → Prop} {xs : List α} (h : d.R e w base ok (.slice (some ⟨g, 0, none⟩) m c) xs) : ∃ cur : List Value, w.heap[g]? = some (.cells cur.toArray e (0, 0)) ∧ cur.length = c * d.sz ∧ base ≤ g ∧ c ≤ maxLen := by
  obtain ⟨h0, inner, ho, hr⟩ := h
  rcases ho.2 with ⟨hv, _⟩ | ⟨g', cap', cur', hv, hb, hh, h1, h2, h3, h4⟩
  · cases hv
  · simp only [Value.slice.injEq, Option.some.injEq, Addr.mk.injEq, and_true, true_and] at hv
    obtain ⟨rfl, hmm, rfl⟩ := hv
    exact ⟨cur'.toList, by simpa using hh, by simpa using h3, hb, h2⟩
theorem size70 : (Try.prog.info? 70).map (·.size) = some 2 := by kernel_rfl
theorem holdD {p} (h : Hd p) : p := h.out
def del70.T5 : Bool × List (List Nat × List Nat) := (true, [([], []), ([], []), ([0, 1], [0, 1]), ([], []), ([], []), ([3, 4], [3, 4]), ([2, 5], [2, 5]), ([6, 6, 0, 1, 2, 3, 4, 5, 6], [0, 3, 6])])
def del70.B5 : List Nat := [0, 0, 3, 0, 0, 24, 63, 127]
theorem del70.tab5 : rtab .any (opsOf Try.f54 5) = del70.T5 := by kernel_rfl
theorem del70.bits5 : waitsOk del70.T5.2 del70.B5 = true := by kernel_rfl
set_option maxRecDepth 100000 in
set_option maxHeartbeats 400000 in
theorem del70_any (base g c n i : Nat) (ok : Nat → Prop) (xs : List S70) (w : World) (h : Kd.R k70 70 w base ok (.slice (some ⟨g, 0, none⟩) n c) xs) (hi : i < n) (hb : base ≤ w.heap.size) (hn : n ≤ 4398046511104) :
    Calls Try.prog 54 #[.slice (some ⟨g, 0, none⟩) n c, .int .i64 (i : Int), .int .i64 ((i + 1 : Nat) : Int)] w fun e w' => e = .returned (.slice (some ⟨g, 0, none⟩) (n - 1) c) ∧ Kd.R k70 70 w' base ok (.slice (some ⟨g, 0, none⟩) (n - 1) c) (xs.eraseIdx i) ∧ w.grownBy w' (some g) := by
  have H := hd h
  have hnc : n ≤ c := (Kd.R_reads' h).2.1
  have hc : c ≤ 9223372036854775807 := by obtain ⟨_, _, _, _, hc⟩ := R_block h; simpa [maxLen] using hc
  clear h
  have hne : ((i : Int) == (i : Int) + 1) = false := beq_eq_false_iff_ne.2 (by omega)
  go_enter Try.func54, Try.ntmps54
  go_wp2_with fail
  obtain ⟨i70, hi70, hz70⟩ := Option.map_eq_some_iff.1 size70
  have hca := cut_to (P := Try.prog) 48 70 .i64 Try.underlying48 hi70 (some ⟨g, 0, none⟩) n c (i : Int) (by omega) (by omega) hnc
  have hcb1 : (0 : Int) ≤ (i : Int) + 1 := by omega
  have hcb2 : (i : Int) + 1 ≤ (n : Int) := by omega
  rw [Int.toNat_natCast] at hca
  clear hi70 hz70
  have HW : Hd (Kd.R k70 70 w.drew base ok (.slice (some ⟨g, 0, none⟩) n c) xs) := hd (Kd.R_drewN H.out 1)
  have hbw : base ≤ w.drew.heap.size := hb
  refine start_ (n := 8) (S := fun w' => True) (ds := []) #[false, false, false, false, false, false, false, false] (by kernel_rfl) rfl rfl trivial (fun hHeld => ?_)
  refine with_tabW del70.tab5 del70.bits5 (fun HT_ HW_ => ?_)
  refine pure_ (i := 0) (N := (some 20)) (v := ?_) (a' := ?_) #[true, false, false, false, false, false, false, false] rfl rfl (any_of HT_.out (by kernel_rfl)) (fun _ _ _ h => h) (Or.inl ⟨by rfl, ?_⟩) ?_ ?_
  rotate_left
  · intro w'
    go_simp
    with_reducible rfl
  rotate_left
  · simp only [Act.put, List.setIfInBounds_toArray, List.set_cons_zero, List.set_cons_succ, i64_w, i32_w]
    rfl
  refine pure_ (i := 1) (N := (some 21)) (v := ?_) (a' := ?_) #[true, true, false, false, false, false, false, false] rfl rfl (any_of HT_.out (by kernel_rfl)) (fun _ _ _ h => h) (Or.inl ⟨by rfl, ?_⟩) ?_ ?_
  rotate_left
  · intro w'
    go_simp
    with_reducible rfl
  rotate_left
  · simp only [Act.put, List.setIfInBounds_toArray, List.set_cons_zero, List.set_cons_succ, i64_w, i32_w]
    rfl
  refine pure_ (i := 2) (N := (some 22)) (v := ?_) (a' := ?_) #[true, true, true, false, false, false, false, false] rfl rfl (any_of HT_.out (by kernel_rfl)) (fun _ _ _ h => h) (Or.inl ⟨by rfl, ?_⟩) ?_ ?_
  rotate_left
  · intro w'
    go_simp
    with_reducible rfl
  rotate_left
  · simp only [Act.put, List.setIfInBounds_toArray, List.set_cons_zero, List.set_cons_succ, i64_w, i32_w]
    rfl
  refine pure_ (i := 3) (N := (some 23)) (v := ?_) (a' := ?_) #[true, true, true, true, false, false, false, false] rfl rfl (any_of HT_.out (by kernel_rfl)) (fun _ _ _ h => h) (Or.inl ⟨by rfl, ?_⟩) ?_ ?_
  rotate_left
  · intro w'
    go_simp
    with_reducible rfl
  rotate_left
  · simp only [Act.put, List.setIfInBounds_toArray, List.set_cons_zero, List.set_cons_succ, i64_w, i32_w]
    rfl
  refine pure_ (i := 4) (N := (some 24)) (v := ?_) (a' := ?_) #[true, true, true, true, true, false, false, false] rfl rfl (any_of HT_.out (by kernel_rfl)) (fun _ _ _ h => h) (Or.inl ⟨by rfl, ?_⟩) ?_ ?_
  rotate_left
  · intro w'
    go_simp
    with_reducible rfl
  rotate_left
  · simp only [Act.put, List.setIfInBounds_toArray, List.set_cons_zero, List.set_cons_succ, i64_w, i32_w]
    rfl
  refine pure_ (i := 5) (N := (some 25)) (v := ?_) (a' := ?_) #[true, true, true, true, true, true, false, false] rfl rfl (any_of HT_.out (by kernel_rfl)) (fun _ _ _ h => h) (Or.inl ⟨by rfl, ?_⟩) ?_ ?_
  rotate_left
  · intro w'
    go_simp
    with_reducible rfl
  rotate_left
  · simp only [Act.put, List.setIfInBounds_toArray, List.set_cons_zero, List.set_cons_succ, i64_w, i32_w]
    rfl
  refine one_ (i := 6) (N := (some 26)) #[true, true, true, true, true, true, true, false] rfl rfl (one_of HT_.out (by kernel_rfl)) (by decide) (fun K hK => ?_)
  refine Kd.R_delete_step k70 (w0 := w.drew) base (by rfl) (.tmp 22) (.tmp 25) 48 70 rfl Try.underlying48 size70 (k := i) (n := n) (c := c) (m := n - (i + 1)) (c2 := c - (i + 1)) (A := if c = i + 1 then some ⟨g, 0, none⟩ else some ⟨g, (i + 1) * 2, none⟩) (by rfl) (by rfl) (by show _ = if c = i + 1 then some (⟨g, 0, none⟩ : Addr) else some (Addr.add ⟨g, 0, none⟩ ((i + 1) * 2)); simp [Addr.add]) rfl HW.out hi (Below.refl base w.drew) hbw ?_
  intro w1 hR hBl hG
  refine hK.out _ _ trivial (fun hHeld => ?_)
  clear hK K
  have HR1 := hd hR
  have HG1 : Hd (w.grownBy w1 (some g)) := hd ⟨hG.os, hG.tape, hG.output, hG.size, hG.block⟩
  clear hR hBl hG HW hca hcb1 hcb2
  refine norm_ (a' := ?_) ?_ ?_
  rotate_left
  · show Act.put _ (some 26) _ = _
    simp only [Act.put, List.setIfInBounds_toArray, List.set_cons_zero, List.set_cons_succ, i64_w, i32_w]
    rfl
  refine pure_ (i := 7) (N := (some 0)) (v := ?_) (a' := ?_) #[true, true, true, true, true, true, true, true] rfl rfl (any_of HT_.out (by kernel_rfl)) (fun _ _ _ h => h) (Or.inl ⟨by rfl, ?_⟩) ?_ ?_
  rotate_left
  · intro w'
    go_simp
    with_reducible rfl
  rotate_left
  · simp only [Act.put, List.setIfInBounds_toArray, List.set_cons_zero, List.set_cons_succ, i64_w, i32_w]
    rfl
  refine done_ (done_of HT_.out (by kernel_rfl)) ?_
  clear HT_ HW_
  generalize (if c = i + 1 then some (⟨g, 0, none⟩ : Addr) else some ⟨g, (i + 1) * 2, none⟩) = A9
  obtain ⟨cur, hcur, hcl0, _, _⟩ := R_block HR1.out
  have hcl : cur.length = c * 2 := hcl0
  clear hcl0
  have HC := hd hcur
  have hcn : ¬ c = n - 1 := by omega
  have HFI : Hd ((n - 1) * 2 + (n - (n - 1)) * 2 ≤ cur.length) := hd (by rw [hcl]; omega)
  have HCL := hd hcl
  clear hcur hcl
  have hn1 : n - 1 + 1 = n := by omega
  have hcs1 : (0 : Int) ≤ ((n - 1 : Nat) : Int) := by omega
  have hcs2 : ((n - 1 : Nat) : Int) ≤ (n : Int) := by omega
  have hcs3 : (n : Int) ≤ (c : Int) := by omega
  go_wp2_with (refine wpList_clear_k rfl _ 48 rfl 70 (.agg #[.int .i64 0, .slice none 0 0]) 2 Try.underlying48 (fun W => by kernel_rfl) rfl (by decide) g ((n - 1) * 2) (n - (n - 1)) (c - (n - 1)) rfl cur 70 HC.out HFI.out ?_; intro w3 zs Z1 Z2 Z3)
  go_wp2
  go_ret
  refine ⟨rfl, R_cleared HR1.out HC.out Z1.out (Nat.le_refl _) (by rw [Z2.out]; exact HFI.out) Z3.out, grownBy_trans HG1.out Z3.out⟩
end Go.Proofs.Ytafnjlgdjhegaaa.Pr
