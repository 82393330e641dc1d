/-
  musterlaw27.told: all that a store tells.
-/
import Derived.Test.YtinpgejkkfpckaaHAwake
import Derived.Test.YtinpgejkkfpckaaQ8
namespace Go.Proofs.Ytinpgejkkfpckaa.Pr
open Go.RowKit Go.Proofs.YtinpgejkkfpckaaW.PrintWords Go.Proofs.YtinpgejkkfpckaaW.PrintLast Go.Proofs.YtinpgejkkfpckaaW.PrintMore Go.Proofs.YtinpgejkkfpckaaG
set_option linter.unusedVariables false
set_option linter.unusedSimpArgs false
set_option maxRecDepth 100000 in
set_option maxHeartbeats 4000000 in
theorem told_st {w : World} {base s : Nat} {ok : Nat → Prop} {P : List Past} {ids : List Int} (h : St w base ok s P ids) (hl : ids.length ≤ 4096) :
    Calls Try.prog 25 #[.pointer (some ⟨s, 0, none⟩)] w fun e w' => ∃ va vb, e = .returned (.tuple #[va, vb]) ∧ Kd.R k56 56 w' w.heap.size (fun _ => True) va (toldA P ids) ∧ Kd.R (Kd.int .i64) 2 w' w.heap.size (fun _ => True) vb (toldB P ids) ∧ Below w.heap.size w w' := by
  have H := hd h
  clear h
  have l1 := rollR_len P ids ByteArray.empty 0 100000 3600
  have l2 := rollR_len P ids ⟨#[97]⟩ 0 200000 86400
  obtain ⟨ta, hta⟩ : ∃ t, toldA P ids = t := ⟨_, rfl⟩
  obtain ⟨tb, htb⟩ : ∃ t, toldB P ids = t := ⟨_, rfl⟩
  rw [hta, htb]
  have HTA0 := hd hta
  have HTB0 := hd htb
  clear hta htb
  go_enter Try.func25, Try.ntmps25
  go_wp2_with fail
  refine (hours_st H.out hl ByteArray.empty 0 100000).mono ?_
  rintro e w1 ⟨v1, rfl, hR, hb⟩
  have HR1 := hd hR
  have HB1 := hd hb
  have H1 := hd (H.out.below hb)
  clear hR hb H
  have hta := HTA0.out
  have htb := HTB0.out
  unfold toldA toldX at hta
  unfold toldB toldX at htb
  clear HTA0 HTB0
  obtain ⟨r1, hr1⟩ : ∃ r, rollR P ids ByteArray.empty 0 100000 3600 = r := ⟨_, rfl⟩
  rw [hr1] at HR1 hta htb l1 ⊢
  clear hr1
  obtain ⟨L1, o1, e1⟩ := r1
  have HTA := hd hta
  have HTB := hd htb
  clear hta htb
  dsimp only at HR1 HTA HTB l1 ⊢
  obtain ⟨A1, c1, rfl⟩ := Kd.R_slice HR1.out
  go_wp2_with fail
  refine (days_st H1.out hl ⟨#[97]⟩ 0 200000).mono ?_
  rintro e w2 ⟨v2, rfl, hR, hb⟩
  have HR2 := hd hR
  have HR12 := hd (Kd.R_below HR1.out hb)
  have HB2 : Hd (Below w.heap.size w w2) := hd (below_then HB1.out HB1.out.size hb)
  have H2 := hd (H1.out.below hb)
  have HZ1 := HB1.out.size
  have HZ2 := hb.size
  clear hR hb H1 HR1 HB1
  obtain ⟨r2, hr2⟩ : ∃ r, rollR P ids ⟨#[97]⟩ 0 200000 86400 = r := ⟨_, rfl⟩
  rw [hr2] at HR2 HTA HTB l2 ⊢
  clear hr2
  obtain ⟨L2, o2, e2⟩ := r2
  dsimp only at HR2 HTA HTB l2 ⊢
  obtain ⟨A2, c2, rfl⟩ := Kd.R_slice HR2.out
  obtain ⟨x, hx⟩ : ∃ x, wrap64 (e1 + e2) = x := ⟨_, rfl⟩
  rw [hx] at HTA HTB
  by_cases hz : x = 0
  · have hz1 : (x != 0) = false := bne_eq_false_iff_eq.mpr hz
    have hz2 : decide (x ≠ 0) = false := decide_eq_false (by omega)
    rw [hz2] at HTA HTB
    cases o1
    · cases o2
      · clear hz hz2
        simp only [Bool.or_false, Bool.false_eq_true, if_false] at HTA HTB
        go_wp2_with fail
        refine (runs_st H2.out hl ByteArray.empty).mono ?_
        rintro e w3 ⟨v3, rfl, hR, hb⟩
        have HR3 := hd (Kd.R_lower hR (show w.heap.size ≤ w2.heap.size by omega))
        have HR13 := hd (Kd.R_below HR12.out hb)
        have HR23 := hd (Kd.R_below HR2.out hb)
        have HB3 : Hd (Below w.heap.size w w3) := hd (below_then HB2.out HB2.out.size hb)
        obtain ⟨okx, HOK, HR3x⟩ : ∃ okx : Nat → Prop, Hd (∀ k, okx k → w2.heap.size ≤ k ∧ k < w3.heap.size) ∧ Hd (Kd.R k56 56 w3 w.heap.size okx v3 (runsL P ByteArray.empty ids)) := ⟨_, hd (fun k hk => ⟨hk.2.1, hk.2.2.1⟩), hd (Kd.R_lower (Kd.R_bound hR) (show w.heap.size ≤ w2.heap.size by omega))⟩
        have HN1 : Hd (∀ k, (Value.slice A1 L1.length c1).ownBlock = some k → k < w2.heap.size) := hd (Kd.R_lt HR12.out)
        clear hR hb H2 HR12 HR2 HB2 HR3
        obtain ⟨_, hcd, hC2⟩ := Kd.R_reads' HR23.out
        have HC2 := hd hC2
        clear hC2
        go_wp2_with ((with_reducible refine gate_builtin (b := .append) (xs := #[.tmp 34, .tmp 35]) rfl ?_); at_builtin; refine Kd.R_append_rows (Kd.int .i64) (w0 := w) w.heap.size rfl (.tmp 34) (.tmp 35) 22 2 (.int .i64 0) 8 rfl Try.underlying22 info2 rfl (by decide) (by omega) (.slice A1 L1.length c1) L1 L2 _ _ _ (fun _ => True) (fun _ => False) rfl rfl HR13.out HC2.out (fun _ _ h => h) (fun _ h => h.elim) (fun _ _ => trivial) HB3.out HB3.out.size (by omega) ?_; intro v4 w4 ho hb hg hat; have HR4 := hd ho; have HB4 := hd hb; have HG4 := hd hg; clear ho hb hg hat)
        refine bodyPost_ret (results_list (rs := [.tmp 2, .tmp 3]) rfl (by simp) (.tmp (.tmp .nil))) rfl ?_
        refine ⟨_, _, rfl, ?_, ?_, HB4.out⟩
        · rw [← HTA.out]
          exact Kd.R_mono (Kd.R_grown HR3x.out HG4.out fun k hk e => by have := HN1.out k e.symm; have := HOK.out k hk; omega) fun _ _ => trivial
        · rw [← HTB.out]
          exact HR4.out
      · simp only [Bool.or_true, if_true] at HTA HTB
        clear hz2 hz
        go_wp2
        refine bodyPost_ret (results_list (rs := [.tmp 2, .tmp 3]) rfl (by simp) (.tmp (.tmp .nil))) rfl ?_
        exact ⟨_, _, rfl, by rw [← HTA.out]; exact Kd.R_nil _ _ _ _ _, by rw [← HTB.out]; exact Kd.R_nil _ _ _ _ _, HB2.out⟩
    · simp only [Bool.or_true, Bool.true_or, if_true] at HTA HTB
      clear hz2 hz
      go_wp2
      refine bodyPost_ret (results_list (rs := [.tmp 2, .tmp 3]) rfl (by simp) (.tmp (.tmp .nil))) rfl ?_
      exact ⟨_, _, rfl, by rw [← HTA.out]; exact Kd.R_nil _ _ _ _ _, by rw [← HTB.out]; exact Kd.R_nil _ _ _ _ _, HB2.out⟩
  · have hz1 : (x != 0) = true := bne_iff_ne.mpr hz
    have hz2 : decide (x ≠ 0) = true := decide_eq_true hz
    rw [hz2] at HTA HTB
    simp only [Bool.true_or, if_true] at HTA HTB
    clear hz2 hz
    go_wp2
    refine bodyPost_ret (results_list (rs := [.tmp 2, .tmp 3]) rfl (by simp) (.tmp (.tmp .nil))) rfl ?_
    exact ⟨_, _, rfl, by rw [← HTA.out]; exact Kd.R_nil _ _ _ _ _, by rw [← HTB.out]; exact Kd.R_nil _ _ _ _ _, HB2.out⟩
end Go.Proofs.Ytinpgejkkfpckaa.Pr
