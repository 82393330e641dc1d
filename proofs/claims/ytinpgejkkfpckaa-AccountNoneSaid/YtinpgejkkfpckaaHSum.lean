/-
  account's store: total.
-/
import Derived.Test.YtinpgejkkfpckaaHTotal
import Derived.Test.YtinpgejkkfpckaaPr2
namespace Go.Proofs.Ytinpgejkkfpckaa.Pr
open Go.RowKit Go.Proofs.YtinpgejkkfpckaaW.PrintWords Go.Proofs.YtinpgejkkfpckaaW.PrintLast Go.Proofs.YtinpgejkkfpckaaW.PrintMore Go.Proofs.YtinpgejkkfpckaaG
set_option linter.unusedVariables false
set_option linter.unusedSimpArgs false
def isOf (P : List Past) (acc : ByteArray) (id : Int) : Bool := decide (acc = ByteArray.empty) || decide ((runP P id).acc = acc)
/-- What the runs of an account used, one by one. -/
def usedL (P : List Past) (acc : ByteArray) (fr tt : Int) (ids : List Int) : List Int := (ids.filter (isOf P acc)).map fun id => usedP (runP P id) fr tt
theorem usedL_len (P : List Past) (acc : ByteArray) (fr tt : Int) (ids : List Int) : (usedL P acc fr tt ids).length ≤ ids.length := by
  unfold usedL
  rw [List.length_map]
  exact List.length_filter_le _ _
theorem usedL_step (P : List Past) (acc : ByteArray) (fr tt : Int) (ids : List Int) (j : Nat) (h : j < ids.length) : usedL P acc fr tt (ids.take (j + 1)) = usedL P acc fr tt (ids.take j) ++ if isOf P acc (ids.getD j 0) = true then [usedP (runP P (ids.getD j 0)) fr tt] else [] := by
  have e : ids.getD j 0 = ids[j] := by simp [List.getD_eq_getElem?_getD, h]
  rw [e]
  unfold usedL
  rw [List.take_succ_eq_append_getElem h, List.filter_append, List.map_append]
  cases hb : isOf P acc ids[j] <;> simp [hb]
theorem ba_eq {a b : ByteArray} (h : a.toList = b.toList) : a = b := by
  rw [ByteArray.toList_eq, ByteArray.toList_eq] at h
  obtain ⟨⟨a⟩⟩ := a
  obtain ⟨⟨b⟩⟩ := b
  simp at h
  rw [h]
theorem ba_empty {a : ByteArray} (h : a.toList = []) : a = ByteArray.empty := ba_eq (h.trans (by simp))
set_option maxRecDepth 100000 in
set_option maxHeartbeats 800000 in
theorem total_any (k s m : Nat) (P : List Past) (A : Option Addr) (c : Nat) (ids : List Int) (acc : ByteArray) (fr tt : Int) (n : Int) (o : Bool) (w : World) (h0 : w.cell? ⟨s, 0, none⟩ = some (.map (some m))) (h1 : w.cell? ⟨s, 1, none⟩ = some (.slice A ids.length c)) (hm : MapP w m P)
    (hr : Kd.C (Kd.int .i64) w A ids.length ids) (hl : ids.length ≤ 4096) (hsum : account_Sum.f k (usedL P acc fr tt ids) = some (n, o)) :
    Calls Try.prog 39 #[.pointer (some ⟨s, 0, none⟩), .string acc, .int .i64 fr, .int .i64 tt] w fun e w' => e = .returned (.tuple #[.int .i64 n, .bool o]) ∧ Below w.heap.size w w' := by
  have HM := hd hm
  have HR := hd hr
  have HS := hd hsum
  clear hm hr hsum
  go_enter Try.func39, Try.ntmps39
  go_wp2
  go_loopw [10, 19] (fun lv iv wr => ∃ j : Nat, j ≤ ids.length ∧ iv = .int .i64 (j : Int) ∧ Hd (Kd.R (Kd.int .i64) 2 wr w.heap.size (fun _ => True) lv (usedL P acc fr tt (ids.take j))) ∧ Hd (Below w.heap.size w wr)) (fun _ iv _ => ids.length - (intOf iv).toNat)
  case atStart => exact ⟨0, by omega, rfl, hd (by simp [usedL]; exact Kd.R_nil _ _ _ _ _), hd (Below.refl _ _)⟩
  case round =>
    obtain ⟨j, hj, rfl, HL, HB⟩ := hrel
    by_cases hlt : j < ids.length
    · obtain ⟨ad, rfl, hx⟩ := Kd.at_int (Kd.C_below HR.out HB.out) (j : Int) (by omega) (by omega)
      have hxe : rd ids (j : Int) = ids.getD j 0 := by simp [rd]
      rw [hxe, Int.toNat_natCast] at hx
      obtain ⟨x, hxx⟩ : ∃ x, ids.getD j 0 = x := ⟨_, rfl⟩
      rw [hxx] at hx
      have HX := hd hxx
      clear hxx hxe
      have hj' : (j : Int) < (ids.length : Int) := by omega
      go_wp2_with fail
      refine (run_any s m P x wr (pw_cell_below HB.out h0) (HM.out.below HB.out)).mono ?_
      rintro e w1 ⟨rfl, b1⟩
      have HB1 : Hd (Below w.heap.size w w1) := hd (below_then HB.out HB.out.size b1)
      have HL1 := hd (Kd.R_below HL.out b1)
      clear b1 hx
      obtain ⟨r, hr⟩ : ∃ r, runP P x = r := ⟨_, rfl⟩
      have HRR := hd hr
      rw [hr]
      clear hr
      simp only [runCs]
      have HB2 : Hd (Below w.heap.size w (w1.alloc (.cells (runCs r) 56 (0, 0)))) := hd (below_alloc HB1.out _)
      have HL2 : Hd (Kd.R (Kd.int .i64) 2 (w1.alloc (.cells (runCs r) 56 (0, 0))) w.heap.size (fun _ => True) u10 (usedL P acc fr tt (ids.take j))) := hd (Kd.R_alloc HL1.out _)
      simp only [runCs] at HB2 HL2
      have app : ∀ b : Bool, isOf P acc x = b → True := fun _ _ => trivial
      by_cases e1 : acc = ByteArray.empty
      · subst e1
        have hin : isOf P ByteArray.empty x = true := by unfold isOf; rw [decide_eq_true rfl]; rfl
        have hst := usedL_step P ByteArray.empty fr tt ids j hlt
        rw [HX.out, if_pos hin, HRR.out] at hst
        have HST := hd hst
        clear hst hin app
        go_wp2_with fail
        refine (used_any r fr tt _).mono ?_
        rintro e w3 ⟨rfl, b3⟩
        have HB3 : Hd (Below w.heap.size w w3) := hd (below_then HB2.out HB2.out.size b3)
        have HL3 := hd (Kd.R_below HL2.out b3)
        clear b3 HB2 HL2 HB1 HL1
        obtain ⟨q, hq⟩ : ∃ q, usedP r fr tt = q := ⟨_, rfl⟩
        have HQ := hd hq
        rw [hq]
        clear hq
        go_wp2_with ((with_reducible refine gate_builtin (b := .append) (xs := #[.tmp 34, .tmp 39]) rfl ?_); at_builtin; refine Kd.R_append (Kd.int .i64) (w0 := w) w.heap.size rfl (.tmp 34) (.tmp 39) 22 2 (.int .i64 0) 8 rfl Try.underlying22 info2 rfl (by decide) (by omega) u10 (usedL P ByteArray.empty fr tt (ids.take j)) q [.int .i64 q] (fun _ => True) (fun _ => False) rfl rfl rfl (fun _ hk => hk.elim) (fun _ _ => trivial) HL3.out HB3.out ?aS ?aL ?_; (case aS => exact HB3.out.size); (case aL => have := usedL_len P ByteArray.empty fr tt (ids.take j); rw [List.length_take] at this; omega); intro v1 w4 hv1 hb1 hg1 hat1)
        go_roundw
        case rel => exact ⟨j + 1, by omega, by go_num, hd (by rw [HST.out, HQ.out]; exact hv1), hd hb1⟩
        case measure => simp [intOf]; omega
      · by_cases e2 : r.acc = acc
        · have hin : isOf P acc x = true := by unfold isOf; rw [HRR.out, decide_eq_true e2, Bool.or_true]
          have hst := usedL_step P acc fr tt ids j hlt
          rw [HX.out, if_pos hin, HRR.out] at hst
          have HST := hd hst
          clear hst hin app
          have e1t : ¬ acc.toList = [] := fun h => e1 (ba_empty h)
          subst e2
          clear e1
          go_wp2_with fail
          refine (used_any r fr tt _).mono ?_
          rintro e w3 ⟨rfl, b3⟩
          have HB3 : Hd (Below w.heap.size w w3) := hd (below_then HB2.out HB2.out.size b3)
          have HL3 := hd (Kd.R_below HL2.out b3)
          clear b3 HB2 HL2 HB1 HL1
          obtain ⟨q, hq⟩ : ∃ q, usedP r fr tt = q := ⟨_, rfl⟩
          have HQ := hd hq
          rw [hq]
          clear hq
          go_wp2_with ((with_reducible refine gate_builtin (b := .append) (xs := #[.tmp 34, .tmp 39]) rfl ?_); at_builtin; refine Kd.R_append (Kd.int .i64) (w0 := w) w.heap.size rfl (.tmp 34) (.tmp 39) 22 2 (.int .i64 0) 8 rfl Try.underlying22 info2 rfl (by decide) (by omega) u10 (usedL P r.acc fr tt (ids.take j)) q [.int .i64 q] (fun _ => True) (fun _ => False) rfl rfl rfl (fun _ hk => hk.elim) (fun _ _ => trivial) HL3.out HB3.out ?aS ?aL ?_; (case aS => exact HB3.out.size); (case aL => have := usedL_len P r.acc fr tt (ids.take j); rw [List.length_take] at this; omega); intro v1 w4 hv1 hb1 hg1 hat1)
          go_roundw
          case rel => exact ⟨j + 1, by omega, by go_num, hd (by rw [HST.out, HQ.out]; exact hv1), hd hb1⟩
          case measure => simp [intOf]; omega
        · have e1t : ¬ acc.toList = [] := fun h => e1 (ba_empty h)
          have e1b : acc.toList.isEmpty = false := by cases hq : acc.toList with | nil => exact absurd hq e1t | cons _ _ => rfl
          have e2t : ¬ r.acc.toList = acc.toList := fun h => e2 (ba_eq h)
          have e2b : (r.acc.toList == acc.toList) = false := beq_eq_false_iff_ne.2 e2t
          have e2d : decide (r.acc.toList = acc.toList) = false := decide_eq_false e2t
          have hin : ¬ isOf P acc x = true := by unfold isOf; rw [HRR.out, decide_eq_false e2, decide_eq_false e1]; simp
          have hst := usedL_step P acc fr tt ids j hlt
          rw [HX.out, if_neg hin, List.append_nil] at hst
          have HST := hd hst
          clear hst hin app e1 e2
          go_wp2
          go_roundw
          case rel => exact ⟨j + 1, by omega, by go_num, hd (by rw [HST.out]; exact HL2.out), HB2⟩
          case measure => simp [intOf]; omega
    · obtain ⟨B, d, rfl, hd', hC⟩ := Kd.R_reads HL.out
      have e : ids.take j = ids := List.take_of_length_le (by omega)
      rw [e] at hC hd'
      go_wp2_with fail
      refine (account_Sum.calls k B d _ n o wr hC hd' HS.out).mono ?_
      rintro e w5 ⟨rfl, b5⟩
      have HB5 : Hd (Below w.heap.size w w5) := hd (below_then HB.out HB.out.size b5)
      go_wp2
      go_ret2
      exact ⟨rfl, HB5.out⟩
end Go.Proofs.Ytinpgejkkfpckaa.Pr
