/-
  session.Done, proved by hand: what it computes.
-/
import Derived.Test.YtafnjlgdjhegaaaHLook
import Derived.Test.YtafnjlgdjhegaaaHInsR
namespace Go.Proofs.Ytafnjlgdjhegaaa.Pr
open Go.RowKit Go.Proofs.YtafnjlgdjhegaaaW.PrintWords Go.Proofs.YtafnjlgdjhegaaaW.PrintLast Go.Proofs.YtafnjlgdjhegaaaW.PrintMore Go.Proofs.YtafnjlgdjhegaaaG
set_option linter.unusedVariables false
set_option linter.unusedSimpArgs false
theorem found_any {T : List Int} {n : Int} {i : Nat} {b : Bool} (h : Found T n i b) (hr : rises 0 T = true) : b = hasN T n ∧ (b = true → i = under T n) := by
  by_cases hn : 1 ≤ n
  · obtain ⟨h1, h2⟩ := found_under h hr hn
    exact ⟨h2, fun _ => h1⟩
  · have hb : b = false := by
      cases hb : b with
      | false => rfl
      | true =>
        obtain ⟨h1, h2⟩ := h.2.1.1 hb
        have := rises_at hr h1
        omega
    refine ⟨?_, fun h => by rw [hb] at h; cases h⟩
    rw [hb]
    unfold hasN
    by_cases hz : under T n < T.length
    · have := rises_at hr hz
      have : ¬ T.getD (under T n) 0 = n := by omega
      rw [decide_eq_false this, Bool.and_false]
    · rw [decide_eq_false hz, Bool.false_and]
def doneArgs (l : List S44) (cl rq : Int) : Bool := rightB l && hasN (l.map S44.f0) cl && !decide (rq ≤ (l.getD (under (l.map S44.f0) cl) z44).f1) && !decide (4611686018427387904 < rq)
def doneRow (l : List S44) (i : Nat) (rq : Int) (rep : List Int) : List S44 :=
  let c := l.getD i z44
  let k := under (c.f2.map S46.f0) rq
  l.set i ⟨c.f0, c.f1, c.f2.take k ++ [⟨rq, rep⟩] ++ c.f2.drop k⟩
def doneGood (l : List S44) (i : Nat) (rq : Int) (rep : List Int) : List S44 × Int :=
  let c := l.getD i z44
  if hasN (c.f2.map S46.f0) rq = true then ([], 2) else if 65536 < rep.length then ([], 3) else if 8 ≤ c.f2.length then ([], 5) else (doneRow l i rq rep, 0)
def donePure (l : List S44) (cl rq : Int) (rep : List Int) : List S44 × Int :=
  if doneArgs l cl rq = true then doneGood l (under (l.map S44.f0) cl) rq rep else ([], 2)
def session_Done.T12 : Bool × List (List Nat × List Nat) := (true, [([], []), ([], []), ([], []), ([], []), ([2, 3], [2, 3]), ([4], [4]), ([5], [5]), ([], []), ([], []), ([], []), ([9], [9]), ([8, 10], [8, 10]), ([11], [11]), ([6, 7, 12, 10], [6, 7, 12]), ([0, 1, 0, 1, 2, 3, 4, 5, 6, 7, 8, 9, 10, 11, 12, 13], [0, 1]), ([14, 0, 1, 2, 3, 4, 5, 6, 7, 8, 9, 10, 11, 12, 13], [14]), ([15, 13, 13, 0, 1, 2, 3, 4, 5, 6, 7, 8, 9, 10, 11, 12, 13], [13, 15])])
def session_Done.B12 : List Nat := [0, 0, 0, 0, 12, 28, 60, 0, 0, 0, 512, 1792, 3840, 8188, 16383, 32767, 65535]
theorem session_Done.tab12 : rtab .any (opsOf Try.f12 12) = session_Done.T12 := by kernel_rfl
theorem session_Done.bits12 : waitsOk session_Done.T12.2 session_Done.B12 = true := by kernel_rfl
set_option maxRecDepth 100000 in
set_option maxHeartbeats 2000000 in
theorem done_any (A : Option Addr) (c : Nat) (l : List S44) (cl rq : Int) (B : Option Addr) (d : Nat) (rep : List Int) (w : World) (hr : Kd.C k44 w A l.length l) (hlc : l.length ≤ c) (hrp : Kd.C (Kd.int .u8) w B rep.length rep) (hrd : rep.length ≤ d)
    (hs : small44 l) (hx : ∀ x ∈ l.map S44.f0, i64 x) (hcl : i64 cl) (hrq : i64 rq) :
    Calls Try.prog 12 #[.slice A l.length c, .int .i64 cl, .int .i64 rq, .slice B rep.length d] w fun e w' => ∃ v0_ : Value, e = .returned (.tuple #[v0_, .int .i64 (donePure l cl rq rep).2]) ∧ Kd.R k44 44 w' w.heap.size (fun _ => True) v0_ (donePure l cl rq rep).1 ∧ Below w.heap.size w w' := by
  have HR := hd hr
  have HRP := hd hrp
  have HS := hd hs
  have HX := hd hx
  have HCL := hd hcl
  have HRQ := hd hrq
  have HLC := hd hlc
  have HRD := hd hrd
  clear hr hrp hs hx hcl hrq hlc hrd
  obtain ⟨k, hk⟩ := Ev.rounds (copied_ev l HS.out)
  have HK := hd hk
  clear hk
  go_enter Try.func12, Try.ntmps12
  go_wp2_with fail
  refine (place44_any A c l cl w HR.out HX.out HCL.out).mono ?_
  rintro e w1 ⟨i, b, rfl, hf, hb1⟩
  have HF := hd hf
  have HB1 := hd hb1
  clear hf hb1
  go_wp2_with fail
  refine (right_any A c l w1 (Kd.C_below HR.out HB1.out)).mono ?_
  rintro e w2 ⟨rfl, hb2⟩
  have HB2 : Hd (Below w.heap.size w w2) := hd (below_then HB1.out HB1.out.size hb2)
  clear hb2 HB1
  cases hright : rightB l with
  | false =>
    have e : donePure l cl rq rep = ([], 2) := by unfold donePure doneArgs; rw [hright]; rfl
    have HE := hd e
    clear e hright
    go_wp2_with fail
    go_ret2
    rw [HE.out]
    exact ⟨_, rfl, Kd.R_nil _ _ _ _ _, HB2.out⟩
  | true =>
    have HRI := hd hright
    clear hright
    have HL16 : Hd (l.length ≤ 16 ∧ rises 0 (l.map S44.f0) = true ∧ l.any wrongB = false) := hd (by have := HRI.out; unfold rightB at this; simpa [and_assoc] using this)
    obtain ⟨hb, hbi⟩ := found_any HF.out HL16.out.2.1
    cases b with
    | false =>
      have e : donePure l cl rq rep = ([], 2) := by unfold donePure doneArgs; rw [← hb, HRI.out]; rfl
      have HE := hd e
      clear e hb hbi
      go_wp2_with fail
      go_ret2
      rw [HE.out]
      exact ⟨_, rfl, Kd.R_nil _ _ _ _ _, HB2.out⟩
    | true =>
      have hbi := hbi rfl
      subst hbi
      have hlt : under (l.map S44.f0) cl < l.length := by have := (HF.out.2.1.1 rfl).1; rwa [List.length_map] at this
      have HBB := hd hb
      clear hb HF
      obtain ⟨i, hi⟩ : ∃ i, under (l.map S44.f0) cl = i := ⟨_, rfl⟩
      rw [hi] at hlt ⊢
      obtain ⟨ad, A2, c2, rfl, h0, h1, h2, h3, h4⟩ := at_T44 (Kd.C_below HR.out HB2.out) (i : Int) (by omega) (by omega)
      rw [rd44_nat] at h0 h1 h2 h3 h4
      rw [Int.toNat_natCast] at h0 h1 h2
      obtain ⟨x, hx⟩ : ∃ x, l.getD i z44 = x := ⟨_, rfl⟩
      rw [hx] at h0 h1 h2 h3 h4
      have HDA : Hd (donePure l cl rq rep = if rq ≤ x.f1 then ([], 2) else if 4611686018427387904 < rq then ([], 2) else doneGood l i rq rep) := hd (by
        unfold donePure doneArgs
        rw [HRI.out, ← HBB.out, hi, hx]
        by_cases c1 : rq ≤ x.f1
        · rw [if_pos c1, decide_eq_true c1]; rfl
        · rw [if_neg c1, decide_eq_false c1]
          by_cases c2 : 4611686018427387904 < rq
          · rw [if_pos c2, decide_eq_true c2]; rfl
          · rw [if_neg c2, decide_eq_false c2]; rfl)
      have HXX := hd hx
      have HH4 := hd h4
      have hlt' : (i : Int) < (l.length : Int) := by omega
      have HWR : Hd (wrongB x = false) := hd (by rw [← hx, getD44_at l i hlt]; simpa using List.any_eq_false.1 HL16.out.2.2 _ (List.getElem_mem hlt))
      clear hx hi h3 h4
      by_cases hc1 : rq ≤ x.f1
      · have HE := HDA.out
        rw [if_pos hc1] at HE
        replace HE := hd HE
        go_wp2_with fail
        go_ret2
        rw [HE.out]
        exact ⟨_, rfl, Kd.R_nil _ _ _ _ _, HB2.out⟩
      · by_cases hc2 : 4611686018427387904 < rq
        · have HE := HDA.out
          rw [if_neg hc1, if_pos hc2] at HE
          replace HE := hd HE
          go_wp2_with fail
          go_ret2
          rw [HE.out]
          exact ⟨_, rfl, Kd.R_nil _ _ _ _ _, HB2.out⟩
        · have HE := HDA.out
          rw [if_neg hc1, if_neg hc2] at HE
          replace HE := hd HE
          clear HDA
          have HRI2 : Hd (rises 0 (x.f2.map S46.f0) = true) := hd (by
            have h1 := HWR.out
            unfold wrongB at h1
            simp only [Bool.or_eq_false_iff, decide_eq_false_iff_not, Bool.not_eq_false'] at h1
            obtain ⟨⟨⟨h2, h3⟩, h4⟩, h5⟩ := h1
            rw [rises_iff] at h5 ⊢
            refine ⟨h5.1, fun y hy => ?_⟩
            have := h5.2 y hy
            omega)
          have HI2 : Hd (∀ y ∈ x.f2.map S46.f0, i64 y) := hd (fun y hy => by
            have := rises_mem HRI2.out y hy
            unfold i64
            omega)
          go_wp2_with fail
          refine (place46_any A2 c2 x.f2 rq w2 HH4.out HI2.out HRQ.out).mono ?_
          rintro e w3 ⟨k2, b2, rfl, hf2, hb3⟩
          obtain ⟨hb2', hk2⟩ := found_any hf2 HRI2.out
          have HF2 := hd hf2
          have HB3 : Hd (Below w.heap.size w w3) := hd (below_then HB2.out HB2.out.size hb3)
          replace h0 := pw_cell_below hb3 h0
          replace h1 := pw_cell_below hb3 h1
          replace h2 := pw_cell_below hb3 h2
          clear hf2 hb3
          have HDG : Hd (donePure l cl rq rep = if b2 = true then ([], 2) else if 65536 < rep.length then ([], 3) else if 8 ≤ x.f2.length then ([], 5) else (doneRow l i rq rep, 0)) := hd (by rw [HE.out]; unfold doneGood; rw [HXX.out, hb2'])
          clear HE
          cases b2 with
          | true =>
            have HE := HDG.out
            rw [if_pos rfl] at HE
            replace HE := hd HE
            clear hk2 hb2'
            go_wp2_with fail
            go_ret2
            rw [HE.out]
            exact ⟨_, rfl, Kd.R_nil _ _ _ _ _, HB3.out⟩
          | false =>
            have HK2 := hd hb2'
            clear hk2 hb2'
            by_cases hc3 : 65536 < rep.length
            · have hc3' : (65536 : Int) < (rep.length : Int) := by omega
              have HE := HDG.out
              rw [if_neg (by simp), if_pos hc3] at HE
              replace HE := hd HE
              go_wp2_with fail
              go_ret2
              rw [HE.out]
              exact ⟨_, rfl, Kd.R_nil _ _ _ _ _, HB3.out⟩
            · have hc3' : ¬ (65536 : Int) < (rep.length : Int) := by omega
              by_cases hc4 : 8 ≤ x.f2.length
              · have hc4' : (8 : Int) ≤ (x.f2.length : Int) := by omega
                have HE := HDG.out
                rw [if_neg (by simp), if_neg hc3, if_pos hc4] at HE
                replace HE := hd HE
                go_wp2_with fail
                go_ret2
                rw [HE.out]
                exact ⟨_, rfl, Kd.R_nil _ _ _ _ _, HB3.out⟩
              · have hc4' : ¬ (8 : Int) ≤ (x.f2.length : Int) := by omega
                have HE := HDG.out
                rw [if_neg (by simp), if_neg hc3, if_neg hc4] at HE
                replace HE := hd HE
                clear HDG
                go_wp2_with fail
                have hrq1 : 1 ≤ rq := by
                  have h1 := HWR.out
                  unfold wrongB at h1
                  simp only [Bool.or_eq_false_iff, decide_eq_false_iff_not] at h1
                  omega
                obtain ⟨rfl, hjunk⟩ := found_under HF2.out HRI2.out hrq1
                clear hjunk
                obtain ⟨k2, hk2⟩ : ∃ k2, under (x.f2.map S46.f0) rq = k2 := ⟨_, rfl⟩
                rw [hk2] at HF2 ⊢
                have HKU := hd hk2
                clear hk2
                have hk2l : k2 ≤ x.f2.length := by have := HF2.out.1; rwa [List.length_map] at this
                refine (session_copied.calls k _ c l l w3 (Kd.C_below HR.out HB3.out) HLC.out HK.out).mono ?_
                rintro e w4 ⟨v, rfl, hS, hb4⟩
                have HB4 : Hd (Below w.heap.size w w4) := hd (below_then HB3.out HB3.out.size hb4)
                have HS4 : Hd (Kd.S k44 44 w4 w.heap.size (fun _ => True) v l) := hd (Kd.S_lower hS HB3.out.size)
                clear hS hb4 h0 h1 h2
                obtain ⟨g, cap, rfl, hgb, hgl, cells, hcells⟩ := Kd.S_form HS4.out (by omega)
                have HGB := hd hgb
                have HSD := hd (Kd.S_drew HS4.out)
                have HBD : Hd (Below w.heap.size w w4.drew) := hd (below_drew1 HB4.out)
                obtain ⟨oki, cs, _, hM, hcc, hoki, hH⟩ := Kd.S_lend HSD.out z44 (i : Int) (by omega) hlt'
                rw [Int.toNat_natCast, HXX.out] at hM
                rw [Int.toNat_natCast] at hcc
                obtain ⟨s, rfl, hRs⟩ := k44_openM hM
                obtain ⟨As, cs, rfl⟩ := Kd.R_slice hRs
                have e2 : w4.drew.cell? ⟨g, i * 3 + 2, none⟩ = some (.slice As x.f2.length cs) := hcc 2 _ rfl
                have HH := hd (Kd.H_widen hH)
                have HRS := hd hRs
                have HOK := hd hoki
                clear hM hcc hH hRs hoki hgb hgl hcells
                have HRPD := hd (Kd.C_below HRP.out HBD.out)
                go_wp2_with fail
                refine start_ (n := 17) (S := fun w' => w'.cell? ⟨g, i * 3 + 2, none⟩ = some (.slice As x.f2.length cs)) (ds := [16]) #[false, false, false, false, false, false, false, false, false, false, false, false, false, false, false, false, false] (by kernel_rfl) rfl rfl e2 (fun hHeld => ?_)
                refine with_tabW session_Done.tab12 session_Done.bits12 (fun HT_ HW_ => ?_)
                generalize w4.drew = wd at HSD HBD HH HRS HRPD e2 hHeld ⊢
                refine pure_ (i := 0) (N := some 67) (v := ?_) (a' := ?_) #[true, false, false, false, false, false, false, false, false, false, false, false, false, false, false, false, false] rfl rfl (any_of HT_.out (by kernel_rfl)) (fun _ _ _ h => h) (Or.inl ⟨by rfl, ?_⟩) ?_ ?_
                rotate_left
                · intro w'
                  go_simp
                  with_reducible rfl
                rotate_left
                · simp only [Act.put, List.setIfInBounds_toArray, List.set_cons_zero, List.set_cons_succ, i64_w, i32_w]
                  rfl
                refine pure_ (i := 1) (N := some 68) (v := ?_) (a' := ?_) #[true, true, false, false, false, false, false, false, false, false, false, false, false, false, false, false, false] rfl rfl (any_of HT_.out (by kernel_rfl)) (fun _ _ _ h => h) (Or.inl ⟨by rfl, ?_⟩) ?_ ?_
                rotate_left
                · intro w'
                  go_simp
                  with_reducible rfl
                rotate_left
                · simp only [Act.put, List.setIfInBounds_toArray, List.set_cons_zero, List.set_cons_succ, i64_w, i32_w]
                  rfl
                refine pure_ (i := 2) (N := some 69) (v := ?_) (a' := ?_) #[true, true, true, false, false, false, false, false, false, false, false, false, false, false, false, false, false] rfl rfl (any_of HT_.out (by kernel_rfl)) (fun _ _ _ h => h) (Or.inl ⟨by rfl, ?_⟩) ?_ ?_
                rotate_left
                · intro w'
                  go_simp
                  with_reducible rfl
                rotate_left
                · simp only [Act.put, List.setIfInBounds_toArray, List.set_cons_zero, List.set_cons_succ, i64_w, i32_w]
                  rfl
                refine pure_ (i := 3) (N := some 70) (v := ?_) (a' := ?_) #[true, true, true, true, false, false, false, false, false, false, false, false, false, false, false, false, false] rfl rfl (any_of HT_.out (by kernel_rfl)) (fun _ _ _ h => h) (Or.inl ⟨by rfl, ?_⟩) ?_ ?_
                rotate_left
                · intro w'
                  go_simp
                  with_reducible rfl
                rotate_left
                · simp only [Act.put, List.setIfInBounds_toArray, List.set_cons_zero, List.set_cons_succ, i64_w, i32_w]
                  rfl
                refine pure_ (i := 4) (N := some 71) (v := ?_) (a' := ?_) #[true, true, true, true, true, false, false, false, false, false, false, false, false, false, false, false, false] rfl rfl (any_of HT_.out (by kernel_rfl)) (fun _ _ _ h => h) (Or.inl ⟨by rfl, ?_⟩) ?_ ?_
                rotate_left
                · intro w'
                  go_simp
                  with_reducible rfl
                rotate_left
                · simp only [Act.put, List.setIfInBounds_toArray, List.set_cons_zero, List.set_cons_succ, i64_w, i32_w]
                  rfl
                refine pure_ (i := 5) (N := some 72) (v := ?_) (a' := ?_) #[true, true, true, true, true, true, false, false, false, false, false, false, false, false, false, false, false] rfl rfl (any_of HT_.out (by kernel_rfl)) (fun _ _ _ h => h) (Or.inl ⟨by rfl, ?_⟩) ?_ ?_
                rotate_left
                · intro w'
                  go_simp
                  with_reducible rfl
                rotate_left
                · simp only [Act.put, List.setIfInBounds_toArray, List.set_cons_zero, List.set_cons_succ, i64_w, i32_w]
                  rfl
                refine pure_ (i := 7) (N := some 74) (v := ?_) (a' := ?_) #[true, true, true, true, true, true, false, true, false, false, false, false, false, false, false, false, false] rfl rfl (any_of HT_.out (by kernel_rfl)) (fun _ _ _ h => h) (Or.inl ⟨by rfl, ?_⟩) ?_ ?_
                rotate_left
                · intro w'
                  go_simp
                  with_reducible rfl
                rotate_left
                · simp only [Act.put, List.setIfInBounds_toArray, List.set_cons_zero, List.set_cons_succ, i64_w, i32_w]
                  rfl
                refine pure_ (i := 8) (N := some 75) (v := ?_) (a' := ?_) #[true, true, true, true, true, true, false, true, true, false, false, false, false, false, false, false, false] rfl rfl (any_of HT_.out (by kernel_rfl)) (fun _ _ _ h => h) (Or.inl ⟨by rfl, ?_⟩) ?_ ?_
                rotate_left
                · intro w'
                  go_simp
                  with_reducible rfl
                rotate_left
                · simp only [Act.put, List.setIfInBounds_toArray, List.set_cons_zero, List.set_cons_succ, i64_w, i32_w]
                  rfl
                refine pure_ (i := 9) (N := some 76) (v := ?_) (a' := ?_) #[true, true, true, true, true, true, false, true, true, true, false, false, false, false, false, false, false] rfl rfl (any_of HT_.out (by kernel_rfl)) (fun _ _ _ h => h) (Or.inl ⟨by rfl, ?_⟩) ?_ ?_
                rotate_left
                · intro w'
                  go_simp
                  with_reducible rfl
                rotate_left
                · simp only [Act.put, List.setIfInBounds_toArray, List.set_cons_zero, List.set_cons_succ, i64_w, i32_w]
                  rfl
                refine take_ (i := 6) (N := some 73) (v := ?_) (a' := ?_) #[true, true, true, true, true, true, true, true, true, true, false, false, false, false, false, false, false] rfl rfl (take_ofW HT_.out HW_.out (by kernel_rfl)) (fun _ _ _ h => h) (Or.inl ⟨by rfl, ?_⟩) hHeld ?_ ?_
                rotate_left
                · rintro w' s0
                  go_simp
                  with_reducible rfl
                rotate_left
                · simp only [Act.put, List.setIfInBounds_toArray, List.set_cons_zero, List.set_cons_succ, i64_w, i32_w]
                  rfl
                refine one_ (i := 10) (N := some 77) #[true, true, true, true, true, true, true, true, true, true, true, false, false, false, false, false, false] rfl rfl (one_of HT_.out (by kernel_rfl)) (by decide) (fun K hK => ?_)
                refine goes_ Try.func43 (by kernel_rfl) rfl #[.slice B rep.length d] (by rfl) rfl rfl (by (try simp only [List.map_toArray, List.map_cons, List.map_nil]); first | done | rfl) ?_
                refine (clone_bytes_any B d rep wd HRPD.out (by omega)).mono ?_
                rintro e w5 ⟨v5, rfl, ho5, hb5⟩
                refine ⟨_, rfl, ?_⟩
                have HO5 : Hd (Kd.R (Kd.int .u8) 5 w5 w.heap.size (fun k_ => wd.heap.size ≤ k_) v5 rep) := hd (Kd.R_mono (Kd.R_lower (Kd.R_bound ho5) HBD.out.size) (fun k_ hk => by have := hk.2.1; omega))
                obtain ⟨A5, c5, rfl⟩ := Kd.R_slice ho5
                have HRS5 : Hd (Kd.R k46 46 w5 w.heap.size (fun k_ => oki k_ ∧ k_ < wd.heap.size) (.slice As x.f2.length cs) x.f2) := hd (Kd.R_below (Kd.R_mono (Kd.R_bound HRS.out) (fun k_ hk => ⟨hk.1, hk.2.2.1⟩)) hb5)
                have HH5 := hd (Kd.H_below HH.out hb5)
                have HB5 : Hd (Below w.heap.size w w5) := hd (below_then HBD.out HBD.out.size hb5)
                have e5 : w5.cell? ⟨g, i * 3 + 2, none⟩ = some (.slice As x.f2.length cs) := pw_cell_below hb5 e2
                have hsz5 : wd.heap.size ≤ w5.heap.size := hb5.size
                clear ho5 hb5
                refine hK.out _ _ e5 (fun hHeld => ?_)
                clear hK K
                refine norm_ (a' := ?_) ?_ ?_
                rotate_left
                · show Act.put _ (some 77) _ = _
                  simp only [Act.put, List.setIfInBounds_toArray, List.set_cons_zero, List.set_cons_succ, i64_w, i32_w]
                  rfl
                refine pure_ (i := 11) (N := some 78) (v := ?_) (a' := ?_) #[true, true, true, true, true, true, true, true, true, true, true, true, false, false, false, false, false] rfl rfl (any_of HT_.out (by kernel_rfl)) (fun _ _ _ h => h) (Or.inl ⟨by rfl, ?_⟩) ?_ ?_
                rotate_left
                · intro w'
                  go_simp
                  with_reducible rfl
                rotate_left
                · simp only [Act.put, List.setIfInBounds_toArray, List.set_cons_zero, List.set_cons_succ, i64_w, i32_w]
                  rfl
                refine one_ (i := 12) (N := some 79) #[true, true, true, true, true, true, true, true, true, true, true, true, true, false, false, false, false] rfl rfl (one_of HT_.out (by kernel_rfl)) (by decide) (fun K hK => ?_)
                refine value_ (w1 := ?_) (v := ?_) (by rfl) rfl ?_ ?_
                rotate_left 2
                · go_simp
                  constructor
                  · rfl
                  · rfl
                have e6 : (w5.alloc (.cells #[.int .i64 rq, .slice A5 rep.length c5] 46)).cell? ⟨g, i * 3 + 2, none⟩ = some (.slice As x.f2.length cs) := pw_cell_below (below_alloc (Below.refl _ _) _) e5
                refine hK.out _ _ e6 (fun hHeld => ?_)
                clear hK K
                refine norm_ (a' := ?_) ?_ ?_
                rotate_left
                · show Act.put _ (some 79) _ = _
                  simp only [Act.put, List.setIfInBounds_toArray, List.set_cons_zero, List.set_cons_succ, i64_w, i32_w]
                  rfl
                refine one_ (i := 13) (N := some 80) #[true, true, true, true, true, true, true, true, true, true, true, true, true, true, false, false, false] rfl rfl (one_of HT_.out (by kernel_rfl)) (by decide) (fun K hK => ?_)
                refine goes_ Try.func46 (by kernel_rfl) rfl #[.slice As x.f2.length cs, .int .i64 k2, .slice (some ⟨w5.heap.size, 0, none⟩) 1 1] (by rfl) rfl rfl (by (try simp only [List.map_toArray, List.map_cons, List.map_nil]); first | done | rfl) ?_
                refine (ins46_R w5 w.heap.size wd.heap.size k2 oki (.slice As x.f2.length cs) (.slice A5 rep.length c5) x.f2 (⟨rq, rep⟩ : S46) HRS5.out HO5.out hsz5 HB5.out.size hk2l (by omega)).mono ?_
                rintro e w6 ⟨v6, rfl, hR6, hg6⟩
                refine ⟨_, rfl, ?_⟩
                obtain ⟨A6, c6, rfl⟩ := Kd.R_slice hR6
                have hown : ∀ k_, (Value.slice As x.f2.length cs).ownBlock = some k_ → oki k_ := fun k_ hk => HRS.out.1 k_ hk
                have HH6 := hd (Kd.H_grown (Kd.H_alloc HH5.out (.cells #[.int .i64 rq, .slice A5 rep.length c5] 46)) hg6 (fun k_ hk => .inl (hown k_ hk)))
                have HB6 : Hd (Below w.heap.size w w6) := hd ((below_alloc HB5.out _).grown hg6 (by have := HB5.out.size; simp; omega) (Kd.R_base HRS5.out))
                have e7 : w6.cell? ⟨g, i * 3 + 2, none⟩ = some (.slice As x.f2.length cs) := hg6.cell e6 (fun e => (HOK.out g (hown g e.symm)).2 rfl)
                have HM6 : Hd (k44.M w6 w.heap.size (fun k_ => oki k_ ∨ wd.heap.size ≤ k_) (⟨x.f0, x.f1, x.f2.take k2 ++ [(⟨rq, rep⟩ : S46)] ++ x.f2.drop k2⟩ : S44) [.int .i64 x.f0, .int .i64 x.f1, .slice A6 (x.f2.take k2 ++ [(⟨rq, rep⟩ : S46)] ++ x.f2.drop k2).length c6]) := hd (k44_mkM _ _ _ (⟨x.f0, x.f1, x.f2.take k2 ++ [(⟨rq, rep⟩ : S46)] ++ x.f2.drop k2⟩ : S44) hR6)
                clear hR6 hg6
                refine hK.out _ _ e7 (fun hHeld => ?_)
                clear hK K
                refine norm_ (a' := ?_) ?_ ?_
                rotate_left
                · show Act.put _ (some 80) _ = _
                  simp only [Act.put, List.setIfInBounds_toArray, List.set_cons_zero, List.set_cons_succ, i64_w, i32_w]
                  rfl
                refine pure_ (i := 14) (N := some 81) (v := ?_) (a' := ?_) #[true, true, true, true, true, true, true, true, true, true, true, true, true, true, true, false, false] rfl rfl (any_of HT_.out (by kernel_rfl)) (fun _ _ _ h => h) (Or.inl ⟨by rfl, ?_⟩) ?_ ?_
                rotate_left
                · intro w'
                  go_simp
                  with_reducible rfl
                rotate_left
                · simp only [Act.put, List.setIfInBounds_toArray, List.set_cons_zero, List.set_cons_succ, i64_w, i32_w]
                  rfl
                refine pure_ (i := 15) (N := some 82) (v := ?_) (a' := ?_) #[true, true, true, true, true, true, true, true, true, true, true, true, true, true, true, true, false] rfl rfl (any_of HT_.out (by kernel_rfl)) (fun _ _ _ h => h) (Or.inl ⟨by rfl, ?_⟩) ?_ ?_
                rotate_left
                · intro w'
                  go_simp
                  with_reducible rfl
                rotate_left
                · simp only [Act.put, List.setIfInBounds_toArray, List.set_cons_zero, List.set_cons_succ, i64_w, i32_w]
                  rfl
                obtain ⟨hAt, hFr⟩ := Kd.H_at HH6.out (by omega) hlt'
                have c2f : w6.frozen? ⟨g, i * 3 + 2, none⟩ = false := hFr 2
                obtain ⟨hS7, hg7⟩ := Kd.S_seg0 HH6.out (by omega) hlt' (seg := [.slice A6 (x.f2.take k2 ++ [(⟨rq, rep⟩ : S46)] ++ x.f2.drop k2).length c6]) (j := 2) (x' := (⟨x.f0, x.f1, x.f2.take k2 ++ [(⟨rq, rep⟩ : S46)] ++ x.f2.drop k2⟩ : S44)) (okp := fun k_ => oki k_ ∨ wd.heap.size ≤ k_) (by show (2 : Nat) + 1 ≤ 3; omega) HM6.out (fun k_ h => h.elim .inl (fun h => .inr ⟨trivial, h⟩))
                refine last_ (i := 16) (N := none) #[true, true, true, true, true, true, true, true, true, true, true, true, true, true, true, true, true] rfl rfl (one_of HT_.out (by kernel_rfl)) (by decide) (fun K hK => ?_)
                refine skip_ (w1 := w6.setCell ⟨g, i * 3 + 2, none⟩ (.slice A6 (x.f2.take k2 ++ [(⟨rq, rep⟩ : S46)] ++ x.f2.drop k2).length c6)) (by rfl) rfl ?_ ?_
                · go_simp
                refine hK.out _ _ ?_
                clear hK K
                refine done_ (done_of HT_.out (by kernel_rfl)) ?_
                have hb7 : Below w.heap.size w (w6.setCell ⟨g, i * 3 + 2, none⟩ (.slice A6 (x.f2.take k2 ++ [(⟨rq, rep⟩ : S46)] ++ x.f2.drop k2).length c6)) := HB6.out.grown hg7 HB6.out.size (fun k_ hk => by cases hk; exact HGB.out)
                have hS8 : Kd.S k44 44 (w6.setCell ⟨g, i * 3 + 2, none⟩ (.slice A6 (x.f2.take k2 ++ [(⟨rq, rep⟩ : S46)] ++ x.f2.drop k2).length c6)) w.heap.size (fun _ => True) (.slice (some ⟨g, 0, none⟩) l.length cap) (l.set (i : Int).toNat (⟨x.f0, x.f1, (x.f2.take k2 ++ [(⟨rq, rep⟩ : S46)] ++ x.f2.drop k2)⟩ : S44)) := hS7
                have HS8 := hd hS8
                have HB7 := hd hb7
                clear hS7 hS8 hg7 hb7 hAt hFr c2f e7
                go_wp2_with fail
                go_ret2
                rw [HE.out]
                refine ⟨_, rfl, ?_, HB7.out⟩
                have e : doneRow l i rq rep = l.set (i : Int).toNat (⟨x.f0, x.f1, (x.f2.take k2 ++ [(⟨rq, rep⟩ : S46)] ++ x.f2.drop k2)⟩ : S44) := by
                  unfold doneRow
                  simp only [HXX.out, HKU.out, Int.toNat_natCast]
                rw [e]
                exact Kd.S_R HS8.out
def i64B (x : Int) : Bool := decide (-9223372036854775808 ≤ x) && decide (x ≤ 9223372036854775807)
theorem i64_iff (x : Int) : i64B x = true ↔ i64 x := by simp [i64B, i64]
def doneFine (l : List S44) (cl rq : Int) : Bool := small44B l && (l.map S44.f0).all i64B && i64B cl && i64B rq
def session_Done.f (l0 : List S44) (a1 a2 : Int) (l3 : List Int) : Option (List S44 × Int) := if doneFine l0 a1 a2 = true then some (donePure l0 a1 a2 l3) else none
theorem session_Done.calls (A0 : Option Addr) (c0 : Nat) (l0 : List S44) (a1 a2 : Int) (A3 : Option Addr) (c3 : Nat) (l3 : List Int) (r1 : List S44) (r2 : Int) (w : World) (hr0 : Kd.C k44 w A0 l0.length l0) (hc0 : l0.length ≤ c0) (hr3 : Kd.C (Kd.int .u8) w A3 l3.length l3) (hc3 : l3.length ≤ c3) (h : session_Done.f l0 a1 a2 l3 = some (r1, r2)) :
    Calls Try.prog 12 #[.slice A0 l0.length c0, .int .i64 a1, .int .i64 a2, .slice A3 l3.length c3] w fun e w' => ∃ v0_ : Value, e = .returned (.tuple #[v0_, .int .i64 r2]) ∧ Kd.R k44 44 w' w.heap.size (fun _ => True) v0_ r1 ∧ Below w.heap.size w w' := by
  unfold session_Done.f at h
  by_cases hf : doneFine l0 a1 a2 = true
  · rw [if_pos hf] at h
    have e := Option.some.inj h
    unfold doneFine at hf
    simp only [Bool.and_eq_true, List.all_eq_true] at hf
    obtain ⟨⟨⟨f1, f2⟩, f3⟩, f4⟩ := hf
    have h1 := done_any A0 c0 l0 a1 a2 A3 c3 l3 w hr0 hc0 hr3 hc3 ((small44_iff _).1 f1) (fun x hx => (i64_iff x).1 (f2 x hx)) ((i64_iff _).1 f3) ((i64_iff _).1 f4)
    rw [e] at h1
    exact h1
  · rw [if_neg hf] at h
    cases h
end Go.Proofs.Ytafnjlgdjhegaaa.Pr
