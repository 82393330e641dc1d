/-
  Texts of this session, laid together by wip/tools/merge.py: HTotal, HSum, HSt.
-/
import Derived.Test.YtinpgejkkfpckaaHStore
import Derived.Test.YtinpgejkkfpckaaPr2
import Derived.Test.YtinpgejkkfpckaaQ1
section
namespace Go.Proofs.Ytinpgejkkfpckaa.Pr
open Go.RowKit Go.Proofs.YtinpgejkkfpckaaW.PrintWords Go.Proofs.YtinpgejkkfpckaaW.PrintLast Go.Proofs.YtinpgejkkfpckaaW.PrintMore Go.Proofs.YtinpgejkkfpckaaG
set_option linter.unusedVariables false
set_option linter.unusedSimpArgs false
attribute [local go_sem] max2_int min2_int max_two min_two max_three min_three max_four min_four
def wrongP (fr tt : Int) : Int := if fr < 0 ∨ fr > tt ∨ tt > 1099511627776 then 2 else 0
set_option maxHeartbeats 400000 in
theorem wrong_any (s m : Nat) (fr tt : Int) (w : World) (h : w.cell? ⟨s, 0, none⟩ = some (.map (some m))) :
    Calls Try.prog 38 #[.pointer (some ⟨s, 0, none⟩), .int .i64 fr, .int .i64 tt] w fun e w' => e = .returned (.int .i64 (wrongP fr tt)) ∧ Below w.heap.size w w' := by
  go_enter Try.func38, Try.ntmps38
  go_wp2_with fail
  refine (none_any s m w h).mono ?_
  rintro e w1 ⟨rfl, b1⟩
  have HB := hd b1
  clear b1
  by_cases h1 : fr < 0
  · have e : wrongP fr tt = 2 := if_pos (.inl h1)
    go_wp2
    go_ret
    exact ⟨by rw [e]; rfl, HB.out⟩
  · by_cases h2 : fr > tt
    · have e : wrongP fr tt = 2 := if_pos (.inr (.inl h2))
      go_wp2
      go_ret
      exact ⟨by rw [e]; rfl, HB.out⟩
    · by_cases h3 : tt > 1099511627776
      · have e : wrongP fr tt = 2 := if_pos (.inr (.inr h3))
        go_wp2
        go_ret
        exact ⟨by rw [e]; rfl, HB.out⟩
      · have e : wrongP fr tt = 0 := if_neg (by omega)
        go_wp2
        go_ret
        exact ⟨by rw [e]; rfl, HB.out⟩
/-- What a run used between two times. -/
def usedP (r : RunT) (fr tt : Int) : Int := if r.start < 0 then 0 else wrap64 (wrap64 (r.nodes * r.cores) * mx (wrap64 ((if r.stop ≥ 0 then mn tt r.stop else tt) - mx fr r.start)) 0)
set_option maxRecDepth 100000 in
set_option maxHeartbeats 1000000 in
theorem used_any (r : RunT) (fr tt : Int) (w : World) : Calls Try.prog 52 #[.agg (runCs r), .int .i64 fr, .int .i64 tt] w fun e w' => e = .returned (.int .i64 (usedP r fr tt)) ∧ Below w.heap.size w w' := by
  have HB := hd (below_alloc (Below.refl _ w) (.cells (runCs r) 56 (0, 0)))
  unfold runCs at HB ⊢
  by_cases h1 : r.start < 0
  · have e : usedP r fr tt = 0 := if_pos h1
    rw [e]
    go_enter Try.func52, Try.ntmps52
    go_wp2
    go_ret
    exact ⟨rfl, HB.out⟩
  · by_cases h2 : r.stop ≥ 0
    · have e : usedP r fr tt = wrap64 (wrap64 (r.nodes * r.cores) * mx (wrap64 (mn tt r.stop - mx fr r.start)) 0) := by unfold usedP; rw [if_neg h1, if_pos h2]
      rw [e]
      go_enter Try.func52, Try.ntmps52
      go_wp2
      all_goals go_ret
      all_goals refine ⟨?_, HB.out⟩
      all_goals unfold mx
      all_goals try unfold mn
      all_goals (repeat' split)
      all_goals first | rfl | (exfalso; omega) | (exfalso; simp only [if_pos h] at *; omega) | (exfalso; simp only [if_neg (Int.not_lt.2 h)] at *; omega) | (simp; done)
    · have e : usedP r fr tt = wrap64 (wrap64 (r.nodes * r.cores) * mx (wrap64 (tt - mx fr r.start)) 0) := by unfold usedP; rw [if_neg h1, if_neg h2]
      rw [e]
      go_enter Try.func52, Try.ntmps52
      go_wp2
      all_goals go_ret
      all_goals refine ⟨?_, HB.out⟩
      all_goals unfold mx
      all_goals try unfold mn
      all_goals (repeat' split)
      all_goals first | rfl | (exfalso; omega) | (exfalso; simp only [if_pos h] at *; omega) | (exfalso; simp only [if_neg (Int.not_lt.2 h)] at *; omega) | (simp; done)
end Go.Proofs.Ytinpgejkkfpckaa.Pr
end
section
namespace Go.Proofs.Ytinpgejkkfpckaa.Pr
open Go.RowKit Go.Proofs.YtinpgejkkfpckaaW.PrintWords Go.Proofs.YtinpgejkkfpckaaW.PrintLast Go.Proofs.YtinpgejkkfpckaaW.PrintMore Go.Proofs.YtinpgejkkfpckaaG
set_option linter.unusedVariables false
set_option linter.unusedSimpArgs false
def isOf (P : List Past) (acc : ByteArray) (id : Int) : Bool := decide (acc = ByteArray.empty) || decide ((runP P id).acc = acc)
/-- What the runs of an account used, one by one. -/
def usedL (P : List Past) (acc : ByteArray) (fr tt : Int) (ids : List Int) : List Int := (ids.filter (isOf P acc)).map fun id => usedP (runP P id) fr tt
theorem usedL_len (P : List Past) (acc : ByteArray) (fr tt : Int) (ids : List Int) : (usedL P acc fr tt ids).length ≤ ids.length := by
  unfold usedL
  rw [List.length_map]
  exact List.length_filter_le _ _
theorem usedL_step (P : List Past) (acc : ByteArray) (fr tt : Int) (ids : List Int) (j : Nat) (h : j < ids.length) : usedL P acc fr tt (ids.take (j + 1)) = usedL P acc fr tt (ids.take j) ++ if isOf P acc (ids.getD j 0) = true then [usedP (runP P (ids.getD j 0)) fr tt] else [] := by
  have e : ids.getD j 0 = ids[j] := by simp [List.getD_eq_getElem?_getD, h]
  rw [e]
  unfold usedL
  rw [List.take_succ_eq_append_getElem h, List.filter_append, List.map_append]
  cases hb : isOf P acc ids[j] <;> simp [hb]
theorem ba_eq {a b : ByteArray} (h : a.toList = b.toList) : a = b := by
  rw [ByteArray.toList_eq, ByteArray.toList_eq] at h
  obtain ⟨⟨a⟩⟩ := a
  obtain ⟨⟨b⟩⟩ := b
  simp at h
  rw [h]
theorem ba_empty {a : ByteArray} (h : a.toList = []) : a = ByteArray.empty := ba_eq (h.trans (by simp))
set_option maxRecDepth 100000 in
set_option maxHeartbeats 800000 in
theorem total_any (k s m : Nat) (P : List Past) (A : Option Addr) (c : Nat) (ids : List Int) (acc : ByteArray) (fr tt : Int) (n : Int) (o : Bool) (w : World) (h0 : w.cell? ⟨s, 0, none⟩ = some (.map (some m))) (h1 : w.cell? ⟨s, 1, none⟩ = some (.slice A ids.length c)) (hm : MapP w m P)
    (hr : Kd.C (Kd.int .i64) w A ids.length ids) (hl : ids.length ≤ 4096) (hsum : account_Sum.f k (usedL P acc fr tt ids) = some (n, o)) :
    Calls Try.prog 39 #[.pointer (some ⟨s, 0, none⟩), .string acc, .int .i64 fr, .int .i64 tt] w fun e w' => e = .returned (.tuple #[.int .i64 n, .bool o]) ∧ Below w.heap.size w w' := by
  have HM := hd hm
  have HR := hd hr
  have HS := hd hsum
  clear hm hr hsum
  go_enter Try.func39, Try.ntmps39
  go_wp2
  go_loopw [10, 19] (fun lv iv wr => ∃ j : Nat, j ≤ ids.length ∧ iv = .int .i64 (j : Int) ∧ Hd (Kd.R (Kd.int .i64) 2 wr w.heap.size (fun _ => True) lv (usedL P acc fr tt (ids.take j))) ∧ Hd (Below w.heap.size w wr)) (fun _ iv _ => ids.length - (intOf iv).toNat)
  case atStart => exact ⟨0, by omega, rfl, hd (by simp [usedL]; exact Kd.R_nil _ _ _ _ _), hd (Below.refl _ _)⟩
  case round =>
    obtain ⟨j, hj, rfl, HL, HB⟩ := hrel
    by_cases hlt : j < ids.length
    · obtain ⟨ad, rfl, hx⟩ := Kd.at_int (Kd.C_below HR.out HB.out) (j : Int) (by omega) (by omega)
      have hxe : rd ids (j : Int) = ids.getD j 0 := by simp [rd]
      rw [hxe, Int.toNat_natCast] at hx
      obtain ⟨x, hxx⟩ : ∃ x, ids.getD j 0 = x := ⟨_, rfl⟩
      rw [hxx] at hx
      have HX := hd hxx
      clear hxx hxe
      have hj' : (j : Int) < (ids.length : Int) := by omega
      go_wp2_with fail
      refine (run_any s m P x wr (pw_cell_below HB.out h0) (HM.out.below HB.out)).mono ?_
      rintro e w1 ⟨rfl, b1⟩
      have HB1 : Hd (Below w.heap.size w w1) := hd (below_then HB.out HB.out.size b1)
      have HL1 := hd (Kd.R_below HL.out b1)
      clear b1 hx
      obtain ⟨r, hr⟩ : ∃ r, runP P x = r := ⟨_, rfl⟩
      have HRR := hd hr
      rw [hr]
      clear hr
      simp only [runCs]
      have HB2 : Hd (Below w.heap.size w (w1.alloc (.cells (runCs r) 56 (0, 0)))) := hd (below_alloc HB1.out _)
      have HL2 : Hd (Kd.R (Kd.int .i64) 2 (w1.alloc (.cells (runCs r) 56 (0, 0))) w.heap.size (fun _ => True) u10 (usedL P acc fr tt (ids.take j))) := hd (Kd.R_alloc HL1.out _)
      simp only [runCs] at HB2 HL2
      have app : ∀ b : Bool, isOf P acc x = b → True := fun _ _ => trivial
      by_cases e1 : acc = ByteArray.empty
      · subst e1
        have hin : isOf P ByteArray.empty x = true := by unfold isOf; rw [decide_eq_true rfl]; rfl
        have hst := usedL_step P ByteArray.empty fr tt ids j hlt
        rw [HX.out, if_pos hin, HRR.out] at hst
        have HST := hd hst
        clear hst hin app
        go_wp2_with fail
        refine (used_any r fr tt _).mono ?_
        rintro e w3 ⟨rfl, b3⟩
        have HB3 : Hd (Below w.heap.size w w3) := hd (below_then HB2.out HB2.out.size b3)
        have HL3 := hd (Kd.R_below HL2.out b3)
        clear b3 HB2 HL2 HB1 HL1
        obtain ⟨q, hq⟩ : ∃ q, usedP r fr tt = q := ⟨_, rfl⟩
        have HQ := hd hq
        rw [hq]
        clear hq
        go_wp2_with ((with_reducible refine gate_builtin (b := .append) (xs := #[.tmp 34, .tmp 39]) rfl ?_); at_builtin; refine Kd.R_append (Kd.int .i64) (w0 := w) w.heap.size rfl (.tmp 34) (.tmp 39) 22 2 (.int .i64 0) 8 rfl Try.underlying22 info2 rfl (by decide) (by omega) u10 (usedL P ByteArray.empty fr tt (ids.take j)) q [.int .i64 q] (fun _ => True) (fun _ => False) rfl rfl rfl (fun _ hk => hk.elim) (fun _ _ => trivial) HL3.out HB3.out ?aS ?aL ?_; (case aS => exact HB3.out.size); (case aL => have := usedL_len P ByteArray.empty fr tt (ids.take j); rw [List.length_take] at this; omega); intro v1 w4 hv1 hb1 hg1 hat1)
        go_roundw
        case rel => exact ⟨j + 1, by omega, by go_num, hd (by rw [HST.out, HQ.out]; exact hv1), hd hb1⟩
        case measure => simp [intOf]; omega
      · by_cases e2 : r.acc = acc
        · have hin : isOf P acc x = true := by unfold isOf; rw [HRR.out, decide_eq_true e2, Bool.or_true]
          have hst := usedL_step P acc fr tt ids j hlt
          rw [HX.out, if_pos hin, HRR.out] at hst
          have HST := hd hst
          clear hst hin app
          have e1t : ¬ acc.toList = [] := fun h => e1 (ba_empty h)
          subst e2
          clear e1
          go_wp2_with fail
          refine (used_any r fr tt _).mono ?_
          rintro e w3 ⟨rfl, b3⟩
          have HB3 : Hd (Below w.heap.size w w3) := hd (below_then HB2.out HB2.out.size b3)
          have HL3 := hd (Kd.R_below HL2.out b3)
          clear b3 HB2 HL2 HB1 HL1
          obtain ⟨q, hq⟩ : ∃ q, usedP r fr tt = q := ⟨_, rfl⟩
          have HQ := hd hq
          rw [hq]
          clear hq
          go_wp2_with ((with_reducible refine gate_builtin (b := .append) (xs := #[.tmp 34, .tmp 39]) rfl ?_); at_builtin; refine Kd.R_append (Kd.int .i64) (w0 := w) w.heap.size rfl (.tmp 34) (.tmp 39) 22 2 (.int .i64 0) 8 rfl Try.underlying22 info2 rfl (by decide) (by omega) u10 (usedL P r.acc fr tt (ids.take j)) q [.int .i64 q] (fun _ => True) (fun _ => False) rfl rfl rfl (fun _ hk => hk.elim) (fun _ _ => trivial) HL3.out HB3.out ?aS ?aL ?_; (case aS => exact HB3.out.size); (case aL => have := usedL_len P r.acc fr tt (ids.take j); rw [List.length_take] at this; omega); intro v1 w4 hv1 hb1 hg1 hat1)
          go_roundw
          case rel => exact ⟨j + 1, by omega, by go_num, hd (by rw [HST.out, HQ.out]; exact hv1), hd hb1⟩
          case measure => simp [intOf]; omega
        · have e1t : ¬ acc.toList = [] := fun h => e1 (ba_empty h)
          have e1b : acc.toList.isEmpty = false := by cases hq : acc.toList with | nil => exact absurd hq e1t | cons _ _ => rfl
          have e2t : ¬ r.acc.toList = acc.toList := fun h => e2 (ba_eq h)
          have e2b : (r.acc.toList == acc.toList) = false := beq_eq_false_iff_ne.2 e2t
          have e2d : decide (r.acc.toList = acc.toList) = false := decide_eq_false e2t
          have hin : ¬ isOf P acc x = true := by unfold isOf; rw [HRR.out, decide_eq_false e2, decide_eq_false e1]; simp
          have hst := usedL_step P acc fr tt ids j hlt
          rw [HX.out, if_neg hin, List.append_nil] at hst
          have HST := hd hst
          clear hst hin app e1 e2
          go_wp2
          go_roundw
          case rel => exact ⟨j + 1, by omega, by go_num, hd (by rw [HST.out]; exact HL2.out), HB2⟩
          case measure => simp [intOf]; omega
    · obtain ⟨B, d, rfl, hd', hC⟩ := Kd.R_reads HL.out
      have e : ids.take j = ids := List.take_of_length_le (by omega)
      rw [e] at hC hd'
      go_wp2_with fail
      refine (account_Sum.calls k B d _ n o wr hC hd' HS.out).mono ?_
      rintro e w5 ⟨rfl, b5⟩
      have HB5 : Hd (Below w.heap.size w w5) := hd (below_then HB.out HB.out.size b5)
      go_wp2
      go_ret2
      exact ⟨rfl, HB5.out⟩
end Go.Proofs.Ytinpgejkkfpckaa.Pr
end
section
namespace Go.Proofs.Ytinpgejkkfpckaa.Pr
open Go.RowKit Go.Proofs.YtinpgejkkfpckaaW.PrintWords Go.Proofs.YtinpgejkkfpckaaW.PrintLast Go.Proofs.YtinpgejkkfpckaaW.PrintMore Go.Proofs.YtinpgejkkfpckaaG
set_option linter.unusedVariables false
set_option linter.unusedSimpArgs false
/-- Block s is a store that knows the events P (in the order in which they came), its ids these; all it is made of is ok. -/
def St (w : World) (base : Nat) (ok : Nat → Prop) (s : Nat) (P : List Past) (ids : List Int) : Prop :=
  ∃ m v, ok s ∧ ok m ∧ m ≠ s ∧ base ≤ s ∧ base ≤ m ∧ w.heap[s]? = some (.cells #[.map (some m), v] 70 (0, 0)) ∧ MapP w m P ∧ Kd.R (Kd.int .i64) 3 w base (fun k => ok k ∧ k ≠ s ∧ k ≠ m) v ids
/-- Nothing but what is ok has turned. -/
structure Off (w w' : World) (ok : Nat → Prop) : Prop where
  os : w'.os = w.os
  tape : w'.tape = w.tape
  output : w'.output = w.output
  size : w.heap.size ≤ w'.heap.size
  block : ∀ k, k < w.heap.size → ¬ ok k → w'.heap[k]? = w.heap[k]?
theorem MapP.lt {w : World} {m : Nat} {P : List Past} (h : MapP w m P) : m < w.heap.size := by
  obtain ⟨es, cl, h1, h2⟩ := h
  rcases Nat.lt_or_ge m w.heap.size with h3 | h3
  · exact h3
  · rw [Array.getElem?_eq_none h3] at h1; cases h1
theorem MapP.same {w w' : World} {m : Nat} {P : List Past} (h : MapP w m P) (e : w'.heap[m]? = w.heap[m]?) : MapP w' m P := by
  obtain ⟨es, cl, h1, h2⟩ := h
  exact ⟨es, cl, e.trans h1, h2⟩
section
variable {w w' w0 : World} {base base' s : Nat} {ok ok' : Nat → Prop} {P : List Past} {ids : List Int}
theorem St.lt (h : St w base ok s P ids) : s < w.heap.size := by
  obtain ⟨m, v, _, _, _, _, _, hs, _⟩ := h
  exact blk_lt hs
theorem St.mono (h : St w base ok s P ids) (hk : ∀ k, ok k → ok' k) : St w base ok' s P ids := by
  obtain ⟨m, v, h1, h2, h3, h4, h5, h6, h7, h8⟩ := h
  exact ⟨m, v, hk _ h1, hk _ h2, h3, h4, h5, h6, h7, Kd.R_mono h8 fun k hk' => ⟨hk k hk'.1, hk'.2⟩⟩
/-- Its own blocks are as they were: the store is. -/
theorem St.step (h : St w base ok s P ids) (hm : ∀ k, ok k → k < w.heap.size → w'.heap[k]? = w.heap[k]?) : St w' base (fun k => ok k ∧ k < w.heap.size) s P ids := by
  obtain ⟨m, v, h1, h2, h3, h4, h5, h6, h7, h8⟩ := h
  have l1 := blk_lt h6
  have l2 := h7.lt
  refine ⟨m, v, ⟨h1, l1⟩, ⟨h2, l2⟩, h3, h4, h5, (hm s h1 l1).trans h6, h7.same (hm m h2 l2), ?_⟩
  refine Kd.R_mono (Kd.R_move (Kd.R_bound h8) fun k hk => hm k hk.1.1 hk.2.2.1) fun k hk => ⟨⟨hk.1.1, hk.2.2.1⟩, hk.1.2⟩
theorem St.bound (h : St w base ok s P ids) : St w base (fun k => ok k ∧ k < w.heap.size) s P ids := h.step fun _ _ _ => rfl
theorem St.below (h : St w base ok s P ids) (hb : Below w.heap.size w w') : St w' base ok s P ids := (h.step fun k _ hk => hb.block k hk).mono fun _ hk => hk.1
theorem St.drewN (h : St w base ok s P ids) (n : Nat) : St (w.drewN n) base ok s P ids := h.below (pw_below_drewN (Below.refl _ _) n)
theorem St.alloc (h : St w base ok s P ids) (o : Obj) : St (w.alloc o) base ok s P ids := h.below (below_alloc (Below.refl _ _) o)
theorem St.lower (h : St w base ok s P ids) (hb : base' ≤ base) : St w base' ok s P ids := by
  obtain ⟨m, v, h1, h2, h3, h4, h5, h6, h7, h8⟩ := h
  exact ⟨m, v, h1, h2, h3, by omega, by omega, h6, h7, Kd.R_lower h8 hb⟩
/-- Another store has turned. -/
theorem St.off (h : St w base ok s P ids) (ho : Off w w' ok') (hd : ∀ k, ok k → ¬ ok' k) : St w' base (fun k => ok k ∧ k < w.heap.size) s P ids := h.step fun k hk hl => ho.block k hl (hd k hk)
theorem St.reads (h : St w base ok s P ids) : ∃ m A c, w.cell? ⟨s, 0, none⟩ = some (.map (some m)) ∧ w.cell? ⟨s, 1, none⟩ = some (.slice A ids.length c) ∧ MapP w m P ∧ ids.length ≤ c ∧ Kd.C (Kd.int .i64) w A ids.length ids := by
  obtain ⟨m, v, h1, h2, h3, h4, h5, h6, h7, h8⟩ := h
  obtain ⟨A, c, rfl, hc, hC⟩ := Kd.R_reads h8
  exact ⟨m, A, c, (blk_cell h6 0).trans rfl, (blk_cell h6 1).trans rfl, h7, hc, hC⟩
theorem Off.refl (w : World) (ok : Nat → Prop) : Off w w ok := ⟨rfl, rfl, rfl, Nat.le_refl _, fun _ _ _ => rfl⟩
theorem Off.of_below (h : Below w.heap.size w w') : Off w w' ok := ⟨h.os, h.tape, h.output, h.size, fun k hk _ => h.block k hk⟩
theorem Off.trans {w2 : World} (h : Off w w' ok) (k : Off w' w2 ok') (hk : ∀ i, i < w.heap.size → ok' i → ok i) : Off w w2 ok :=
  ⟨k.os.trans h.os, k.tape.trans h.tape, k.output.trans h.output, Nat.le_trans h.size k.size, fun i hi hn => (k.block i (Nat.lt_of_lt_of_le hi h.size) fun hh => hn (hk i hi hh)).trans (h.block i hi hn)⟩
theorem Off.to_below (h : Off w w' ok) (hk : ∀ k, ok k → base ≤ k) (hb : Below base w0 w) (hs : base ≤ w.heap.size) : Below base w0 w' :=
  hb.trans ⟨h.os, h.tape, h.output, h.size, fun k hk' => h.block k (by omega) fun hh => by have := hk k hh; omega⟩
end
theorem run_st {w : World} {base s : Nat} {ok : Nat → Prop} {P : List Past} {ids : List Int} (h : St w base ok s P ids) (id : Int) :
    Calls Try.prog 41 #[.pointer (some ⟨s, 0, none⟩), .int .i64 id] w fun e w' => e = .returned (.agg (runCs (runP P id))) ∧ Below w.heap.size w w' := by
  obtain ⟨m, A, c, h0, h1, hm, hc, hC⟩ := h.reads
  exact run_any s m P id w h0 hm
theorem total_st {w : World} {base s : Nat} {ok : Nat → Prop} {P : List Past} {ids : List Int} (h : St w base ok s P ids) (hl : ids.length ≤ 4096) (k : Nat) (acc : ByteArray) (fr tt n : Int) (o : Bool) (hsum : account_Sum.f k (usedL P acc fr tt ids) = some (n, o)) :
    Calls Try.prog 39 #[.pointer (some ⟨s, 0, none⟩), .string acc, .int .i64 fr, .int .i64 tt] w fun e w' => e = .returned (.tuple #[.int .i64 n, .bool o]) ∧ Below w.heap.size w w' := by
  obtain ⟨m, A, c, h0, h1, hm, hc, hC⟩ := h.reads
  exact total_any k s m P A c ids acc fr tt n o w h0 h1 hm hC hl hsum
theorem wrong_st {w : World} {base s : Nat} {ok : Nat → Prop} {P : List Past} {ids : List Int} (h : St w base ok s P ids) (fr tt : Int) :
    Calls Try.prog 38 #[.pointer (some ⟨s, 0, none⟩), .int .i64 fr, .int .i64 tt] w fun e w' => e = .returned (.int .i64 (wrongP fr tt)) ∧ Below w.heap.size w w' := by
  obtain ⟨m, A, c, h0, h1, hm, hc, hC⟩ := h.reads
  exact wrong_any s m fr tt w h0
/-- What Used tells. -/
def usedR (n : Int) (o : Bool) (fr tt : Int) : Value := if wrongP fr tt = 0 then .tuple #[.int .i64 n, .bool o, .int .i64 0] else .tuple #[.int .i64 0, .bool false, .int .i64 (wrongP fr tt)]
set_option maxHeartbeats 400000 in
theorem used_st {w : World} {base s : Nat} {ok : Nat → Prop} {P : List Past} {ids : List Int} (h : St w base ok s P ids) (hl : ids.length ≤ 4096) (k : Nat) (acc : ByteArray) (fr tt n : Int) (o : Bool) (hsum : account_Sum.f k (usedL P acc fr tt ids) = some (n, o)) :
    Calls Try.prog 18 #[.pointer (some ⟨s, 0, none⟩), .string acc, .int .i64 fr, .int .i64 tt] w fun e w' => e = .returned (usedR n o fr tt) ∧ Below w.heap.size w w' := by
  have H := hd h
  have HS := hd hsum
  clear h hsum
  obtain ⟨q, hq⟩ : ∃ q, wrongP fr tt = q := ⟨_, rfl⟩
  have HQ := hd hq
  unfold usedR
  rw [hq]
  clear hq
  by_cases hz : q = 0
  · subst hz
    rw [if_pos rfl]
    go_enter Try.func18, Try.ntmps18
    go_wp2_with fail
    refine (wrong_st H.out fr tt).mono ?_
    rintro e w1 ⟨rfl, b1⟩
    have HB1 := hd b1
    have H1 := hd (H.out.below b1)
    clear b1
    rw [HQ.out]
    go_wp2_with fail
    refine (total_st H1.out hl k acc fr tt n o HS.out).mono ?_
    rintro e w2 ⟨rfl, b2⟩
    have HB2 : Hd (Below w.heap.size w w2) := hd (below_then HB1.out HB1.out.size b2)
    clear b2
    go_wp2
    refine bodyPost_ret (results_list (rs := [.tmp 8, .tmp 9, .tmp 10]) rfl (by simp) (.tmp (.tmp (.tmp .nil)))) rfl ?_
    exact ⟨rfl, HB2.out⟩
  · rw [if_neg hz]
    go_enter Try.func18, Try.ntmps18
    go_wp2_with fail
    refine (wrong_st H.out fr tt).mono ?_
    rintro e w1 ⟨rfl, b1⟩
    have HB1 := hd b1
    clear b1
    rw [HQ.out]
    go_wp2
    refine bodyPost_ret (results_list (rs := [.tmp 8, .tmp 9, .tmp 10]) rfl (by simp) (.tmp (.tmp (.tmp .nil)))) rfl ?_
    exact ⟨rfl, HB1.out⟩
end Go.Proofs.Ytinpgejkkfpckaa.Pr
end
