/-
  account's store: Hours, Days, Runs.
-/
import Derived.Test.YtinpgejkkfpckaaHRoll
namespace Go.Proofs.Ytinpgejkkfpckaa.Pr
open Go.RowKit Go.Proofs.YtinpgejkkfpckaaW.PrintWords Go.Proofs.YtinpgejkkfpckaaW.PrintLast Go.Proofs.YtinpgejkkfpckaaW.PrintMore Go.Proofs.YtinpgejkkfpckaaG
set_option linter.unusedVariables false
set_option linter.unusedSimpArgs false
set_option maxHeartbeats 400000 in
theorem hours_st {w : World} {base s : Nat} {ok : Nat → Prop} {P : List Past} {ids : List Int} (h : St w base ok s P ids) (hl : ids.length ≤ 4096) (acc : ByteArray) (fr tt : Int) :
    Calls Try.prog 20 #[.pointer (some ⟨s, 0, none⟩), .string acc, .int .i64 fr, .int .i64 tt] w fun e w' => ∃ v, e = .returned (.tuple #[v, .bool (rollR P ids acc fr tt 3600).2.1, .int .i64 (rollR P ids acc fr tt 3600).2.2]) ∧ Kd.R (Kd.int .i64) 2 w' w.heap.size (fun _ => True) v (rollR P ids acc fr tt 3600).1 ∧ Below w.heap.size w w' := by
  have H := hd h
  clear h
  go_enter Try.func20, Try.ntmps20
  go_wp2_with fail
  refine (roll_st H.out hl acc fr tt 3600 (.inl rfl)).mono ?_
  rintro e w1 ⟨v, rfl, hR, hb⟩
  have HR := hd hR
  have HB := hd hb
  clear hR hb
  obtain ⟨Av, cv, rfl⟩ := Kd.R_slice HR.out
  go_wp2
  refine bodyPost_ret (results_list (rs := [.tmp 8, .tmp 9, .tmp 10]) rfl (by simp) (.tmp (.tmp (.tmp .nil)))) rfl ?_
  exact ⟨_, rfl, HR.out, HB.out⟩
set_option maxHeartbeats 400000 in
theorem days_st {w : World} {base s : Nat} {ok : Nat → Prop} {P : List Past} {ids : List Int} (h : St w base ok s P ids) (hl : ids.length ≤ 4096) (acc : ByteArray) (fr tt : Int) :
    Calls Try.prog 19 #[.pointer (some ⟨s, 0, none⟩), .string acc, .int .i64 fr, .int .i64 tt] w fun e w' => ∃ v, e = .returned (.tuple #[v, .bool (rollR P ids acc fr tt 86400).2.1, .int .i64 (rollR P ids acc fr tt 86400).2.2]) ∧ Kd.R (Kd.int .i64) 2 w' w.heap.size (fun _ => True) v (rollR P ids acc fr tt 86400).1 ∧ Below w.heap.size w w' := by
  have H := hd h
  clear h
  go_enter Try.func19, Try.ntmps19
  go_wp2_with fail
  refine (roll_st H.out hl acc fr tt 86400 (.inr rfl)).mono ?_
  rintro e w1 ⟨v, rfl, hR, hb⟩
  have HR := hd hR
  have HB := hd hb
  clear hR hb
  obtain ⟨Av, cv, rfl⟩ := Kd.R_slice HR.out
  go_wp2
  refine bodyPost_ret (results_list (rs := [.tmp 8, .tmp 9, .tmp 10]) rfl (by simp) (.tmp (.tmp (.tmp .nil)))) rfl ?_
  exact ⟨_, rfl, HR.out, HB.out⟩
def runS (r : RunT) : S56 := ⟨r.id, r.acc, r.usr, r.nodes, r.cores, r.st, r.sub, r.start, r.stop⟩
def isName (P : List Past) (name : ByteArray) (id : Int) : Bool := decide (name = ByteArray.empty) || decide ((runP P id).acc = name) || decide ((runP P id).usr = name)
/-- The runs of a name. -/
def runsL (P : List Past) (name : ByteArray) (ids : List Int) : List S56 := (ids.filter (isName P name)).map fun id => runS (runP P id)
theorem runsL_len (P : List Past) (name : ByteArray) (ids : List Int) : (runsL P name ids).length ≤ ids.length := by
  unfold runsL
  rw [List.length_map]
  exact List.length_filter_le _ _
theorem runsL_step (P : List Past) (name : ByteArray) (ids : List Int) (j : Nat) (h : j < ids.length) : runsL P name (ids.take (j + 1)) = runsL P name (ids.take j) ++ if isName P name (ids.getD j 0) = true then [runS (runP P (ids.getD j 0))] else [] := by
  have e : ids.getD j 0 = ids[j] := by simp [List.getD_eq_getElem?_getD, h]
  rw [e]
  unfold runsL
  rw [List.take_succ_eq_append_getElem h, List.filter_append, List.map_append]
  cases hb : isName P name ids[j] <;> simp [hb]
set_option maxRecDepth 100000 in
set_option maxHeartbeats 1600000 in
theorem runs_any (s m : Nat) (P : List Past) (A : Option Addr) (c : Nat) (ids : List Int) (name : ByteArray) (w : World) (h0 : w.cell? ⟨s, 0, none⟩ = some (.map (some m))) (h1 : w.cell? ⟨s, 1, none⟩ = some (.slice A ids.length c)) (hm : MapP w m P)
    (hr : Kd.C (Kd.int .i64) w A ids.length ids) (hl : ids.length ≤ 4096) :
    Calls Try.prog 27 #[.pointer (some ⟨s, 0, none⟩), .string name] w fun e w' => ∃ v, e = .returned v ∧ Kd.R k56 56 w' w.heap.size (fun _ => True) v (runsL P name ids) ∧ Below w.heap.size w w' := by
  have HM := hd hm
  have HR := hd hr
  clear hm hr
  go_enter Try.func27, Try.ntmps27
  go_wp2_with fail
  refine (none_any s m _ h0).mono ?_
  rintro e w1 ⟨rfl, b1⟩
  have HB1 := hd b1
  replace h0 := pw_cell_below b1 h0
  replace h1 := pw_cell_below b1 h1
  have HM1 := hd (HM.out.below b1)
  have HR1 := hd (Kd.C_below HR.out b1)
  clear b1 HM HR
  go_wp2
  go_loopw [5, 16] (fun lv iv wr => ∃ j : Nat, j ≤ ids.length ∧ iv = .int .i64 (j : Int) ∧ Hd (Kd.R k56 56 wr w1.heap.size (fun _ => True) lv (runsL P name (ids.take j))) ∧ Hd (Below w1.heap.size w1 wr)) (fun _ iv _ => ids.length - (intOf iv).toNat)
  case atStart => exact ⟨0, by omega, rfl, hd (by simp [runsL]; exact Kd.R_nil _ _ _ _ _), hd (Below.refl _ _)⟩
  case round =>
    obtain ⟨j, hj, rfl, HL, HW⟩ := hrel
    by_cases hlt : j < ids.length
    · obtain ⟨ad, rfl, hx⟩ := Kd.at_int (Kd.C_below HR1.out HW.out) (j : Int) (by omega) (by omega)
      have hxe : rd ids (j : Int) = ids.getD j 0 := by simp [rd]
      rw [hxe, Int.toNat_natCast] at hx
      obtain ⟨x, hxx⟩ : ∃ x, ids.getD j 0 = x := ⟨_, rfl⟩
      rw [hxx] at hx
      have HX := hd hxx
      clear hxx hxe
      have hj' : (j : Int) < (ids.length : Int) := by omega
      go_wp2_with fail
      refine (run_any s m P x wr (pw_cell_below HW.out h0) (HM1.out.below HW.out)).mono ?_
      rintro e w2 ⟨rfl, b2⟩
      have HW2 : Hd (Below w1.heap.size w1 w2) := hd (below_then HW.out HW.out.size b2)
      have HL2 := hd (Kd.R_below HL.out b2)
      clear b2 hx
      obtain ⟨r, hr⟩ : ∃ r, runP P x = r := ⟨_, rfl⟩
      have HRR := hd hr
      rw [hr]
      clear hr
      simp only [runCs]
      have HW3 : Hd (Below w1.heap.size w1 (w2.alloc (.cells (runCs r) 56 (0, 0)))) := hd (below_alloc HW2.out _)
      have HL3 : Hd (Kd.R k56 56 (w2.alloc (.cells (runCs r) 56 (0, 0))) w1.heap.size (fun _ => True) u5 (runsL P name (ids.take j))) := hd (Kd.R_alloc HL2.out _)
      simp only [runCs] at HL3 HW3
      have hst := runsL_step P name ids j hlt
      rw [HX.out, HRR.out] at hst
      have HST := hd hst
      clear hst HL2 HW2
      by_cases e1 : name = ByteArray.empty
      · subst e1
        have hin : isName P ByteArray.empty x = true := by unfold isName; rw [decide_eq_true rfl]; rfl
        have HIN := hd hin
        clear hin
        go_wp2_with ((with_reducible refine gate_builtin (b := .append) (xs := #[.tmp 37, .tmp 39]) rfl ?_); at_builtin; refine Kd.R_append k56 (w0 := w1) w1.heap.size rfl (.tmp 37) (.tmp 39) 49 56 (.agg #[(.int .i64 0), (.string ⟨#[]⟩), (.string ⟨#[]⟩), (.int .i64 0), (.int .i64 0), (.int .u8 0), (.int .i64 0), (.int .i64 0), (.int .i64 0)]) 88 rfl Try.underlying49 info56 rfl (by decide) (by omega) u5 (runsL P ByteArray.empty (ids.take j)) (runS r) [.int .i64 r.id, .string r.acc, .string r.usr, .int .i64 r.nodes, .int .i64 r.cores, .int .u8 r.st, .int .i64 r.sub, .int .i64 r.start, .int .i64 r.stop] (fun _ => True) (fun _ => False) (by first | (go_simp; done) | (go_simp; rfl)) (by first | (go_simp; done) | (go_simp; rfl)) (k56_mkM _ _ _ (runS r)) (fun _ hk => hk.elim) (fun _ _ => trivial) HL3.out HW3.out ?aS ?aL ?_; (case aS => exact HW3.out.size); (case aL => have := runsL_len P ByteArray.empty (ids.take j); rw [List.length_take] at this; omega); intro v1 w4 hv1 hb1 hg1 hat1)
        go_roundw
        case rel => exact ⟨j + 1, by omega, by go_num, hd (by rw [HST.out, if_pos HIN.out]; exact hv1), hd hb1⟩
        case measure => simp [intOf]; omega
      · have e1t : ¬ name.toList = [] := fun h => e1 (ba_empty h)
        have e1b : name.toList.isEmpty = false := by cases hq : name.toList with | nil => exact absurd hq e1t | cons _ _ => rfl
        by_cases e2 : r.acc = name
        · have HIN : Hd (isName P name x = true) := hd (by unfold isName; rw [HRR.out, decide_eq_true e2, Bool.or_true, Bool.true_or])
          subst e2
          clear e1
          go_wp2_with ((with_reducible refine gate_builtin (b := .append) (xs := #[.tmp 37, .tmp 39]) rfl ?_); at_builtin; refine Kd.R_append k56 (w0 := w1) w1.heap.size rfl (.tmp 37) (.tmp 39) 49 56 (.agg #[(.int .i64 0), (.string ⟨#[]⟩), (.string ⟨#[]⟩), (.int .i64 0), (.int .i64 0), (.int .u8 0), (.int .i64 0), (.int .i64 0), (.int .i64 0)]) 88 rfl Try.underlying49 info56 rfl (by decide) (by omega) u5 (runsL P r.acc (ids.take j)) (runS r) [.int .i64 r.id, .string r.acc, .string r.usr, .int .i64 r.nodes, .int .i64 r.cores, .int .u8 r.st, .int .i64 r.sub, .int .i64 r.start, .int .i64 r.stop] (fun _ => True) (fun _ => False) (by first | (go_simp; done) | (go_simp; rfl)) (by first | (go_simp; done) | (go_simp; rfl)) (k56_mkM _ _ _ (runS r)) (fun _ hk => hk.elim) (fun _ _ => trivial) HL3.out HW3.out ?aS ?aL ?_; (case aS => exact HW3.out.size); (case aL => have := runsL_len P r.acc (ids.take j); rw [List.length_take] at this; omega); intro v1 w4 hv1 hb1 hg1 hat1)
          go_roundw
          case rel => exact ⟨j + 1, by omega, by go_num, hd (by rw [HST.out, if_pos HIN.out]; exact hv1), hd hb1⟩
          case measure => simp [intOf]; omega
        · have e2t : ¬ r.acc.toList = name.toList := fun h => e2 (ba_eq h)
          have e2b : (r.acc.toList == name.toList) = false := beq_eq_false_iff_ne.2 e2t
          have e2d : decide (r.acc.toList = name.toList) = false := decide_eq_false e2t
          by_cases e3 : r.usr = name
          · have HIN : Hd (isName P name x = true) := hd (by unfold isName; rw [HRR.out, decide_eq_true e3, Bool.or_true])
            subst e3
            clear e1 e2
            go_wp2_with ((with_reducible refine gate_builtin (b := .append) (xs := #[.tmp 37, .tmp 39]) rfl ?_); at_builtin; refine Kd.R_append k56 (w0 := w1) w1.heap.size rfl (.tmp 37) (.tmp 39) 49 56 (.agg #[(.int .i64 0), (.string ⟨#[]⟩), (.string ⟨#[]⟩), (.int .i64 0), (.int .i64 0), (.int .u8 0), (.int .i64 0), (.int .i64 0), (.int .i64 0)]) 88 rfl Try.underlying49 info56 rfl (by decide) (by omega) u5 (runsL P r.usr (ids.take j)) (runS r) [.int .i64 r.id, .string r.acc, .string r.usr, .int .i64 r.nodes, .int .i64 r.cores, .int .u8 r.st, .int .i64 r.sub, .int .i64 r.start, .int .i64 r.stop] (fun _ => True) (fun _ => False) (by first | (go_simp; done) | (go_simp; rfl)) (by first | (go_simp; done) | (go_simp; rfl)) (k56_mkM _ _ _ (runS r)) (fun _ hk => hk.elim) (fun _ _ => trivial) HL3.out HW3.out ?aS ?aL ?_; (case aS => exact HW3.out.size); (case aL => have := runsL_len P r.usr (ids.take j); rw [List.length_take] at this; omega); intro v1 w4 hv1 hb1 hg1 hat1)
            go_roundw
            case rel => exact ⟨j + 1, by omega, by go_num, hd (by rw [HST.out, if_pos HIN.out]; exact hv1), hd hb1⟩
            case measure => simp [intOf]; omega
          · have e3t : ¬ r.usr.toList = name.toList := fun h => e3 (ba_eq h)
            have e3b : (r.usr.toList == name.toList) = false := beq_eq_false_iff_ne.2 e3t
            have e3d : decide (r.usr.toList = name.toList) = false := decide_eq_false e3t
            have HIN : Hd (¬ isName P name x = true) := hd (by unfold isName; rw [HRR.out, decide_eq_false e3, decide_eq_false e2, decide_eq_false e1]; simp)
            clear e1 e2 e3
            go_wp2
            go_roundw
            case rel => exact ⟨j + 1, by omega, by go_num, hd (by rw [HST.out, if_neg HIN.out, List.append_nil]; exact HL3.out), HW3⟩
            case measure => simp [intOf]; omega
    · have HE : ids.take j = ids := List.take_of_length_le (by omega)
      rw [HE] at HL
      obtain ⟨B, d, rfl⟩ := Kd.R_slice HL.out
      clear HE
      go_wp2
      go_ret
      exact ⟨_, rfl, Kd.R_lower HL.out HB1.out.size, below_then HB1.out HB1.out.size HW.out⟩
theorem runs_st {w : World} {base s : Nat} {ok : Nat → Prop} {P : List Past} {ids : List Int} (h : St w base ok s P ids) (hl : ids.length ≤ 4096) (name : ByteArray) :
    Calls Try.prog 27 #[.pointer (some ⟨s, 0, none⟩), .string name] w fun e w' => ∃ v, e = .returned v ∧ Kd.R k56 56 w' w.heap.size (fun _ => True) v (runsL P name ids) ∧ Below w.heap.size w w' := by
  obtain ⟨m, A, c, h0, h1, hm, hc, hC⟩ := h.reads
  exact runs_any s m P A c ids name w h0 h1 hm hC hl
end Go.Proofs.Ytinpgejkkfpckaa.Pr
