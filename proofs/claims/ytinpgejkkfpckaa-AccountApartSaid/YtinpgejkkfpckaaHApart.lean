/-
  musterlaw27.AccountApart, by hand: a store, its copy, and answers that share no memory.
-/
import Derived.Test.YtinpgejkkfpckaaHApartN
import Derived.Test.YtinpgejkkfpckaaHAwake
import Derived.Test.YtinpgejkkfpckaaQKnown
namespace Go.Proofs.Ytinpgejkkfpckaa.Pr
open Go.RowKit Go.Proofs.YtinpgejkkfpckaaW.PrintWords Go.Proofs.YtinpgejkkfpckaaW.PrintLast Go.Proofs.YtinpgejkkfpckaaW.PrintMore Go.Proofs.YtinpgejkkfpckaaG
set_option linter.unusedVariables false
set_option linter.unusedSimpArgs false
/-- Nothing but the list of runs (in a block from lo to hi) has turned. -/
structure Spoil (w wq : World) (A : Option Addr) (lo hi n : Nat) : Prop where
  os : wq.os = w.os
  tape : wq.tape = w.tape
  output : wq.output = w.output
  size : wq.heap.size = w.heap.size
  block : ∀ k, ¬ (lo ≤ k ∧ k < hi) → wq.heap[k]? = w.heap[k]?
  own : 0 < n → ∃ g cur, A = some ⟨g, 0, none⟩ ∧ lo ≤ g ∧ g < hi ∧ wq.heap[g]? = some (.cells cur 56 (0, 0)) ∧ n * 9 ≤ cur.size
theorem Spoil.start {w : World} {base lo hi c : Nat} {A : Option Addr} {xs : List S56} (h : Kd.R k56 56 w base (fun k => lo ≤ k ∧ k < hi) (.slice A xs.length c) xs) : Spoil w w A lo hi xs.length := by
  refine ⟨rfl, rfl, rfl, rfl, fun _ _ => rfl, fun hn => ?_⟩
  obtain ⟨inner, ho⟩ := Kd.R_own h
  rcases ho.2 with ⟨_, h0⟩ | ⟨g, cap, cur, e, hb, hg, h1, h2, h3, h4⟩
  · omega
  · simp only [Value.slice.injEq] at e
    obtain ⟨rfl, _, _⟩ := e
    have ok := h.1 g rfl
    exact ⟨g, cur, rfl, ok.1, ok.2, hg, by have h5 : k56.sz = 9 := rfl; rw [h3, h5]; exact Nat.mul_le_mul_right 9 h1⟩
theorem Spoil.store {w wq : World} {lo hi n g j : Nat} {A : Option Addr} {cur : Array Value} (h : Spoil w wq A lo hi n) (hA : A = some ⟨g, 0, none⟩) (hl : lo ≤ g ∧ g < hi) (hg : wq.heap[g]? = some (.cells cur 56 (0, 0))) (hs : n * 9 ≤ cur.size) (u : Value) : Spoil w (wq.setCell ⟨g, j, none⟩ u) A lo hi n := by
  refine ⟨h.os, h.tape, h.output, by simp [World.setCell]; exact h.size, fun k hk => (Below.heap_setCell wq ⟨g, j, none⟩ u k (fun e => hk (by rw [e]; exact hl))).trans (h.block k hk), fun hn => ⟨g, _, hA, hl.1, hl.2, blk_put hg j u rfl, by simp; exact hs⟩⟩
set_option maxRecDepth 100000 in
set_option maxHeartbeats 8000000 in
theorem apartA_walk (A : Option Addr) (c : Nat) (l : List S36) (x1 : S36) (w : World) (hr : Kd.C k36 w A l.length l) (hc : l.length ≤ c) :
    Calls Try.prog 7 #[.slice A l.length c, pastV (pastS x1)] w fun e w' => e = .returned (.bool true) ∧ Below w.heap.size w w' := by
  have hu36 := Try.underlying36
  have hlen : l.length ≤ 9223372036854775807 := hr.2.1
  have HR := hd hr
  clear hr
  have HB0 : Hd (Below w.heap.size w (w.alloc (.cells (pastCs (pastS x1)) 36))) := hd (below_alloc (Below.refl _ w) _)
  have HX0 : Hd ((w.alloc (.cells (pastCs (pastS x1)) 36)).heap[w.heap.size]? = some (.cells (pastCs (pastS x1)) 36 (0, 0))) := hd (blk_new w _)
  unfold pastV pastCs at *
  go_enter Try.func7, Try.ntmps7
  go_wp2_with fail
  generalize w.alloc _ = w0 at HB0 HX0 ⊢
  refine (new_st w0 (fun k => w0.heap.size ≤ k) (fun _ h => h)).mono ?_
  rintro e w1 ⟨s, rfl, hs, hS, hb⟩
  have HB1 : Hd (Below w.heap.size w w1) := hd (below_then HB0.out HB0.out.size hb)
  have HX1 := hd (blk_below HX0.out hb)
  have S1 : Hd (St w1 w.heap.size (fun k => w0.heap.size ≤ k) s [] []) := hd (hS.lower HB0.out.size)
  have HZ0 : Hd (w.heap.size < w0.heap.size) := hd (blk_lt HX0.out)
  clear hb hS HB0 HX0 hs
  go_wp2
  go_loopw [6] (fun iv wr => ∃ (i : Nat) (P : List Past), i ≤ l.length ∧ i ≤ 40 ∧ iv = .int .i64 (i : Int) ∧ Hd (KnownP P i) ∧ ∃ (okS : Nat → Prop), Hd (∀ k, okS k → w.heap.size < k) ∧ Hd (St wr w.heap.size okS s P (idsP P)) ∧ Hd (Below w.heap.size w wr) ∧ Hd (wr.heap[w.heap.size]? = some (.cells #[.int .i64 (pastS x1).id, .int .u8 (pastS x1).what, .int .i64 (pastS x1).at_, .string (pastS x1).acc, .string (pastS x1).usr, .int .i64 (pastS x1).nodes, .int .i64 (pastS x1).cores, .int .u8 (pastS x1).st] 36 (0, 0)))) (fun iv _ => l.length - (intOf iv).toNat)
  case atStart => exact ⟨0, [], by omega, by omega, rfl, hd KnownP.nil, fun k => w0.heap.size ≤ k, hd (fun _ h => Nat.lt_of_lt_of_le HZ0.out h), S1, HB1, HX1⟩
  case round =>
    obtain ⟨i, P, hi, hi40, rfl, HK, okS, HBA, HS, HB, HX⟩ := hrel
    by_cases hmore : i < l.length ∧ i < 40
    · obtain ⟨hlt, hlt40⟩ := hmore
      obtain ⟨ad, rfl, q0, q1, q2, q3, q4, q5, q6, q7⟩ := at_T36 (Kd.C_below HR.out HB.out) (i : Int) (by omega) (by omega)
      obtain ⟨x, hx⟩ : ∃ x, rd_T36 l (i : Int) = x := ⟨_, rfl⟩
      rw [hx, Int.toNat_natCast] at q0 q1 q2 q3 q4 q5 q6 q7
      clear hx
      have hi1 : (i : Int) < (l.length : Int) := by omega
      have hi2 : (i : Int) < 40 := by omega
      have hids := HK.out.ids
      go_wp2_with fail
      refine (take_st (ok := fun k => okS k ∨ wr.heap.size ≤ k) (HS.out.mono fun k h => .inl h) (fun k h => .inr h) HB.out.size (idsP_rise _) (by omega) (pastS x)).mono ?_
      rintro e w2 ⟨rfl, hS2, hO2⟩
      have HB2 : Hd (Below w.heap.size w w2) := hd (hO2.to_below (fun k h => h.elim (fun h => by have := HBA.out k h; omega) (fun h => Nat.le_trans HB.out.size h)) HB.out HB.out.size)
      have HX2 := hd ((hO2.block w.heap.size (blk_lt HX.out) (fun h => h.elim (fun h => by have := HBA.out _ h; omega) (fun h => by have := blk_lt HX.out; omega))).trans HX.out)
      rw [takeP_state] at hS2
      have HS2 := hd hS2
      have HZ : Hd (w.heap.size < wr.heap.size) := hd (blk_lt HX.out)
      clear hS2 hO2 q0 q1 q2 q3 q4 q5 q6 q7 HS HB HX
      go_wp2
      go_roundw
      case rel => exact ⟨i + 1, takeP P (pastS x), by omega, by omega, by go_num, hd (HK.out.take _), _, hd (fun k h => h.elim (HBA.out k) (fun h => Nat.lt_of_lt_of_le HZ.out h)), HS2, HB2, HX2⟩
      case measure => simp [intOf]; omega
    · have HEND : True := trivial
      by_cases hlt : i < l.length
      · have hi1 : (i : Int) < (l.length : Int) := by omega
        have hi2 : ¬ (i : Int) < 40 := by omega
        have hids := HK.out.ids
        have hids4 : (idsP P).length ≤ 4096 := by omega
        have HN : Hd (∀ k, okS k → w.heap.size ≤ k) := hd fun k h => Nat.le_of_lt (HBA.out k h)
        obtain ⟨ra, hra⟩ : ∃ r, runsL P (⟨#[]⟩ : ByteArray) (idsP P) = r := ⟨_, rfl⟩
        obtain ⟨g1, g2, g3, hg⟩ : ∃ t1 t2 t3, rollR P (idsP P) (⟨#[]⟩ : ByteArray) 0 90000 3600 = (t1, t2, t3) := ⟨_, _, _, rfl⟩
        have hgl : g1.length ≤ 1000 := by have h_ := rollR_len P (idsP P) (⟨#[]⟩ : ByteArray) 0 90000 3600; rw [hg] at h_; exact h_
        have hrl : ra.length ≤ 4096 := by have h_ := runsL_len P (⟨#[]⟩ : ByteArray) (idsP P); rw [hra] at h_; omega
        have HRA := hd hra
        have HG := hd hg
        clear hra hg
        go_wp2_with fail
        refine (copy_st HS.out HK.out.nd hids4).mono ?_
        rintro e w2 ⟨s2, Q, rfl, hs2, hS2, hq, b2⟩
        have HB2 : Hd (Below w.heap.size w w2) := hd (below_then HB.out HB.out.size b2)
        have HX2 := hd (blk_below HX.out b2)
        have HS2 := hd (HS.out.bound.below b2)
        have HC2 := hd (hS2.bound)
        have HQ := hd (SameP.get HK.out.nd hq)
        have HZ : Hd (w.heap.size < wr.heap.size) := hd (blk_lt HX.out)
        have HZ2 : Hd (wr.heap.size ≤ w2.heap.size) := hd b2.size
        clear b2 hS2 hq HS HB HX hs2
        go_wp2_with fail
        refine (runs_st HS2.out hids4 _).mono ?_
        rintro e w3 ⟨va, rfl, hR, b⟩
        have HB3 : Hd (Below w.heap.size w w3) := hd (below_then HB2.out HB2.out.size b)
        have HX3 := hd (blk_below HX2.out b)
        have HS3 := hd (HS2.out.below b)
        have HC3 := hd (HC2.out.below b)
        have HZ3 : Hd (w2.heap.size ≤ w3.heap.size) := hd b.size
        have HA3 : Hd (Kd.R k56 56 w3 w2.heap.size (fun k => w2.heap.size ≤ k ∧ k < w3.heap.size) va ra) := hd (by rw [← HRA.out]; exact Kd.R_mono (Kd.R_bound hR) fun k hk => ⟨hk.2.1, hk.2.2.1⟩)
        clear b hR HB2 HX2 HS2 HC2
        go_wp2_with fail
        refine (runs_st HC3.out hids4 _).mono ?_
        rintro e w4 ⟨vb, rfl, hR, b⟩
        have HB4 : Hd (Below w.heap.size w w4) := hd (below_then HB3.out HB3.out.size b)
        have HX4 := hd (blk_below HX3.out b)
        have HS4 := hd (HS3.out.below b)
        have HC4 := hd (HC3.out.below b)
        have HZ4 : Hd (w3.heap.size ≤ w4.heap.size) := hd b.size
        have HA4 := hd (Kd.R_below HA3.out b)
        have HV4 : Hd (Kd.R k56 56 w4 w3.heap.size (fun k => w3.heap.size ≤ k ∧ k < w4.heap.size) vb ra) := hd (by rw [← HRA.out, ← runsL_same HQ.out]; exact Kd.R_mono (Kd.R_bound hR) fun k hk => ⟨hk.2.1, hk.2.2.1⟩)
        clear b hR HB3 HX3 HS3 HC3 HA3
        obtain ⟨Aa, ca, rfl, hca, hCa⟩ := Kd.R_reads HA4.out
        obtain ⟨Ab, cb, rfl, hcb, hCb⟩ := Kd.R_reads HV4.out
        go_wp2_with fail
        refine (musterlaw27_sameRuns.calls 5000 Aa ca ra Ab cb ra true w4 hCa hca hCb hcb (sr_spec _ (by omega) 5000 (by omega))).mono ?_
        rintro e w_ ⟨rfl, nd, rfl⟩
        have HB5 : Hd (Below w.heap.size w (w4.drewN nd)) := hd (pw_below_drewN HB4.out nd)
        have HX5 : Hd ((w4.drewN nd).heap[w.heap.size]? = _) := hd HX4.out
        have HS5 := hd (HS4.out.drewN nd)
        have HC5 := hd (HC4.out.drewN nd)
        have HA5 := hd (Kd.R_drewN HA4.out nd)
        have HV5 := hd (Kd.R_drewN HV4.out nd)
        have HZ5 : Hd (w4.heap.size ≤ (w4.drewN nd).heap.size) := hd (Nat.le_refl _)
        clear hCa hCb HB4 HX4 HS4 HC4 HA4 HV4
        generalize w4.drewN nd = w5 at HB5 HX5 HS5 HC5 HA5 HV5 HZ5 ⊢
        have r0 := (blk_cell HX5.out 0).trans rfl
        have r1 := (blk_cell HX5.out 1).trans rfl
        have r2 := (blk_cell HX5.out 2).trans rfl
        have r3 := (blk_cell HX5.out 3).trans rfl
        have r4 := (blk_cell HX5.out 4).trans rfl
        have r5 := (blk_cell HX5.out 5).trans rfl
        have r6 := (blk_cell HX5.out 6).trans rfl
        have r7 := (blk_cell HX5.out 7).trans rfl
        go_wp2_with fail
        refine (take_st (ok := fun k => (wr.heap.size ≤ k ∧ k < w2.heap.size) ∨ w5.heap.size ≤ k) (HC5.out.mono fun k h => .inl h) (fun k h => .inr h) (by have := HZ2.out; have := HZ3.out; have := HZ4.out; have := HZ5.out; omega) (idsP_rise _) hids4 (pastS x1)).mono ?_
        rintro e w6 ⟨rfl, -, hO⟩
        have HB6 : Hd (Below w.heap.size w w6) := hd (hO.to_below (fun k h => by have := HZ.out; have := HZ2.out; have := HZ3.out; have := HZ4.out; have := HZ5.out; omega) HB5.out HB5.out.size)
        have HS6 := hd (HS5.out.off hO fun k h h' => by have := HZ2.out; have := HZ3.out; have := HZ4.out; have := HZ5.out; omega)
        have HA6 := hd (Kd.R_step HA5.out fun k h hl => hO.block k hl fun h' => by have := HZ3.out; have := HZ4.out; have := HZ5.out; omega)
        have HV6 := hd (Kd.R_step HV5.out fun k h hl => hO.block k hl fun h' => by have := HZ3.out; have := HZ4.out; have := HZ5.out; omega)
        have HZ6 : Hd (w5.heap.size ≤ w6.heap.size) := hd hO.size
        clear hO r0 r1 r2 r3 r4 r5 r6 r7 HB5 HX5 HS5 HC5 HA5 HV5
        go_wp2_with fail
        refine (runs_st HS6.out hids4 _).mono ?_
        rintro e w7 ⟨ve, rfl, hR, b⟩
        obtain ⟨Ae, ce, rfl, hce, hCe⟩ := Kd.R_reads hR
        rw [HRA.out] at hce hCe ⊢
        have HB7 : Hd (Below w.heap.size w w7) := hd (below_then HB6.out HB6.out.size b)
        have HS7 := hd (HS6.out.below b)
        have HA7 := hd (Kd.R_below HA6.out b)
        have HV7 := hd (Kd.R_below HV6.out b)
        have HZ7 : Hd (w6.heap.size ≤ w7.heap.size) := hd b.size
        clear b hR HB6 HS6 HA6 HV6
        obtain ⟨_, _, hCa⟩ := Kd.R_reads' HA7.out
        go_wp2_with fail
        refine (musterlaw27_sameRuns.calls 5000 Ae ce ra Aa ca ra true w7 hCe hce hCa hca (sr_spec _ (by omega) 5000 (by omega))).mono ?_
        rintro e w_ ⟨rfl, nd8, rfl⟩
        have HB8 : Hd (Below w.heap.size w (w7.drewN nd8)) := hd (pw_below_drewN HB7.out nd8)
        have HS8 := hd (HS7.out.drewN nd8)
        have HA8 := hd (Kd.R_drewN HA7.out nd8)
        have HV8 := hd (Kd.R_drewN HV7.out nd8)
        have HZ8 : Hd (w7.heap.size ≤ (w7.drewN nd8).heap.size) := hd (Nat.le_refl _)
        clear hCa hCe hce HB7 HS7 HA7 HV7
        generalize w7.drewN nd8 = w8 at HB8 HS8 HA8 HV8 HZ8 ⊢
        go_wp2_with fail
        refine (hours_st HS8.out hids4 _ 0 90000).mono ?_
        rintro e w9 ⟨vx, rfl, hR, b⟩
        rw [HG.out] at hR ⊢
        have HB9 : Hd (Below w.heap.size w w9) := hd (below_then HB8.out HB8.out.size b)
        have HS9 := hd (HS8.out.below b)
        have HA9 := hd (Kd.R_below HA8.out b)
        have HV9 := hd (Kd.R_below HV8.out b)
        have HZ9 : Hd (w8.heap.size ≤ w9.heap.size) := hd b.size
        have HP9 : Hd (Kd.R (Kd.int .i64) 2 w9 w8.heap.size (fun k => w8.heap.size ≤ k ∧ k < w9.heap.size) vx g1) := hd (Kd.R_mono (Kd.R_bound hR) fun k hk => ⟨hk.2.1, hk.2.2.1⟩)
        clear b hR HB8 HS8 HA8 HV8
        go_wp2_with fail
        refine (hours_st HS9.out hids4 _ 0 90000).mono ?_
        rintro e w10 ⟨vy, rfl, hR, b⟩
        rw [HG.out] at hR ⊢
        have HB10 : Hd (Below w.heap.size w w10) := hd (below_then HB9.out HB9.out.size b)
        have HS10 := hd (HS9.out.below b)
        have HA10 := hd (Kd.R_below HA9.out b)
        have HV10 := hd (Kd.R_below HV9.out b)
        have HP10 := hd (Kd.R_below HP9.out b)
        have HZ10 : Hd (w9.heap.size ≤ w10.heap.size) := hd b.size
        have HY10 : Hd (Kd.R (Kd.int .i64) 2 w10 w9.heap.size (fun k => w9.heap.size ≤ k ∧ k < w10.heap.size) vy g1) := hd (Kd.R_mono (Kd.R_bound hR) fun k hk => ⟨hk.2.1, hk.2.2.1⟩)
        clear b hR HB9 HS9 HA9 HV9 HP9
        have HSP := hd (Spoil.start HA10.out)
        clear HA10
        obtain ⟨Ax, cx, rfl⟩ := Kd.R_slice HP10.out
        obtain ⟨Ay, cy, rfl⟩ := Kd.R_slice HY10.out
        go_wp2
        go_loopw [16] (fun iv wq => ∃ i : Nat, i ≤ ra.length ∧ iv = .int .i64 (i : Int) ∧ Hd (Spoil w10 wq Aa w2.heap.size w3.heap.size ra.length)) (fun iv _ => ra.length - (intOf iv).toNat)
        case atStart => exact ⟨0, by omega, rfl, HSP⟩
        case round =>
          clear HSP
          obtain ⟨j, hj, rfl, HSP⟩ := hrel
          by_cases hjn : j < ra.length
          · have hj1 : (j : Int) < (ra.length : Int) := by omega
            obtain ⟨g, cur, e, hg1, hg2, hgc, hcs⟩ := HSP.out.own (by omega)
            cases e
            have hgo : ∃ old, cur[j * 9]? = some old := ⟨_, Array.getElem?_eq_getElem (by omega)⟩
            obtain ⟨old, hold⟩ := hgo
            have s1 := (blk_cell hgc (j * 9)).trans hold
            have s2 := blk_frozen hgc (j * 9)
            go_wp2
            clear s1 s2
            go_roundw
            case rel => exact ⟨j + 1, by omega, by go_num, hd (HSP.out.store rfl ⟨hg1, hg2⟩ hgc hcs _)⟩
            case measure => simp [intOf]; omega
          · have hj1 : ¬ (j : Int) < (ra.length : Int) := by omega
            have HB11 : Hd (Below w.heap.size w wr) := hd (HB10.out.trans ⟨HSP.out.os, HSP.out.tape, HSP.out.output, by rw [HSP.out.size]; exact Nat.le_refl _, fun k hk => HSP.out.block k fun h => by have := HZ.out; have := HZ2.out; omega⟩)
            have HS11 := hd (HS10.out.step fun k hk hl => HSP.out.block k fun h => by have := HZ2.out; omega)
            have HV11 := hd (Kd.R_move HV10.out fun k hk => HSP.out.block k fun h => by omega)
            have HP11 := hd (Kd.R_move HP10.out fun k hk => HSP.out.block k fun h => by have := HZ3.out; have := HZ4.out; have := HZ5.out; have := HZ6.out; have := HZ7.out; have := HZ8.out; omega)
            have HY11 := hd (Kd.R_move HY10.out fun k hk => HSP.out.block k fun h => by have := HZ3.out; have := HZ4.out; have := HZ5.out; have := HZ6.out; have := HZ7.out; have := HZ8.out; have := HZ9.out; omega)
            clear HSP
            go_wp2_with fail
            refine (runs_st HS11.out hids4 _).mono ?_
            rintro e w12 ⟨vz, rfl, hR, b⟩
            obtain ⟨Az, cz, rfl, hcz, hCz⟩ := Kd.R_reads hR
            rw [HRA.out] at hcz hCz ⊢
            have HB12 : Hd (Below w.heap.size w w12) := hd (below_then HB11.out HB11.out.size b)
            have HV12 := hd (Kd.R_below HV11.out b)
            have HP12 := hd (Kd.R_below HP11.out b)
            have HY12 := hd (Kd.R_below HY11.out b)
            clear b hR HB11 HS11 HV11 HP11 HY11
            obtain ⟨_, _, hCb⟩ := Kd.R_reads' HV12.out
            go_wp2_with fail
            refine (musterlaw27_sameRuns.calls 5000 Az cz ra Ab cb ra true w12 hCz hcz hCb hcb (sr_spec _ (by omega) 5000 (by omega))).mono ?_
            rintro e w_ ⟨rfl, nd13, rfl⟩
            have HB13 : Hd (Below w.heap.size w (w12.drewN nd13)) := hd (pw_below_drewN HB12.out nd13)
            have HP13 := hd (Kd.R_drewN HP12.out nd13)
            have HY13 := hd (Kd.R_drewN HY12.out nd13)
            clear hCb hCz hcz HB12 HV12 HP12 HY12
            generalize w12.drewN nd13 = w13 at HB13 HP13 HY13 ⊢
            obtain ⟨_, hcx, hCx⟩ := Kd.R_reads' HP13.out
            obtain ⟨_, hcy, hCy⟩ := Kd.R_reads' HY13.out
            go_wp2_with fail
            refine (musterlow_SameNumbers.calls 1001 Ax cx g1 Ay cy g1 true w13 hCx hcx hCy hcy (same_spec _ (by omega) 1001 (by omega))).mono ?_
            rintro e w_ ⟨rfl, nd14, rfl⟩
            have HB14 : Hd (Below w.heap.size w (w13.drewN nd14)) := hd (pw_below_drewN HB13.out nd14)
            have HP14 := hd (Kd.R_drewN HP13.out nd14)
            have HY14 := hd (Kd.R_drewN HY13.out nd14)
            clear hCx hCy hcx hcy HB13 HP13 HY13
            generalize w13.drewN nd14 = w14 at HB14 HP14 HY14 ⊢
            go_wp2_with fail
            have hba := below_alloc (Below.refl _ w14) (.cells #[.slice Ax g1.length cx, .slice Ay g1.length cy] 22)
            obtain ⟨ix, ox⟩ := Kd.R_own (Kd.R_lower (Kd.R_below HP14.out hba) (base' := w.heap.size) (by have := HZ.out; have := HZ2.out; have := HZ3.out; have := HZ4.out; have := HZ5.out; have := HZ6.out; have := HZ7.out; have := HZ8.out; omega))
            obtain ⟨iy, oy⟩ := Kd.R_own (Kd.R_lower (Kd.R_below HY14.out hba) (base' := w.heap.size) (by have := HZ.out; have := HZ2.out; have := HZ3.out; have := HZ4.out; have := HZ5.out; have := HZ6.out; have := HZ7.out; have := HZ8.out; have := HZ9.out; omega))
            obtain ⟨_, ox'⟩ := Kd.R_own HP14.out
            obtain ⟨_, oy'⟩ := Kd.R_own HY14.out
            have HPH : Ph1 (w14.alloc (.cells #[.slice Ax g1.length cx, .slice Ay g1.length cy] 22)) w.heap.size w14.heap.size (.slice Ax g1.length cx) (.slice Ay g1.length cy) g1.length g1.length ix iy :=
              ⟨HB14.out.size, blk_new w14 _, ox, oy, fun e => Nat.lt_irrefl _ (ox'.lt _ e).2, fun e => Nat.lt_irrefl _ (oy'.lt _ e).2, fun b e e' => by have h1_ := HP14.out.1 b e; have h2_ := HY14.out.1 b e'; omega⟩
            refine (apart_walk _ w.heap.size _ _ _ _ _ _ _ HPH (by have := HB14.out.size; simp; omega) hgl hgl).mono ?_
            rintro e w15 ⟨rfl, b⟩
            have HB15 : Hd (Below w.heap.size w w15) := hd (b w (below_alloc HB14.out _))
            clear b HPH oy' ox' oy ox hba HB14 HP14 HY14
            go_wp2_with fail
            refine (awake_walk w15).mono ?_
            rintro e w16 ⟨rfl, b⟩
            have HB16 : Hd (Below w.heap.size w w16) := hd (below_then HB15.out HB15.out.size b)
            clear b HB15
            go_wp2
            go_ret
            exact ⟨rfl, HB16.out⟩
      · have hi1 : ¬ (i : Int) < (l.length : Int) := by omega
        have hids := HK.out.ids
        have hids4 : (idsP P).length ≤ 4096 := by omega
        have HN : Hd (∀ k, okS k → w.heap.size ≤ k) := hd fun k h => Nat.le_of_lt (HBA.out k h)
        obtain ⟨ra, hra⟩ : ∃ r, runsL P (⟨#[]⟩ : ByteArray) (idsP P) = r := ⟨_, rfl⟩
        obtain ⟨g1, g2, g3, hg⟩ : ∃ t1 t2 t3, rollR P (idsP P) (⟨#[]⟩ : ByteArray) 0 90000 3600 = (t1, t2, t3) := ⟨_, _, _, rfl⟩
        have hgl : g1.length ≤ 1000 := by have h_ := rollR_len P (idsP P) (⟨#[]⟩ : ByteArray) 0 90000 3600; rw [hg] at h_; exact h_
        have hrl : ra.length ≤ 4096 := by have h_ := runsL_len P (⟨#[]⟩ : ByteArray) (idsP P); rw [hra] at h_; omega
        have HRA := hd hra
        have HG := hd hg
        clear hra hg
        go_wp2_with fail
        refine (copy_st HS.out HK.out.nd hids4).mono ?_
        rintro e w2 ⟨s2, Q, rfl, hs2, hS2, hq, b2⟩
        have HB2 : Hd (Below w.heap.size w w2) := hd (below_then HB.out HB.out.size b2)
        have HX2 := hd (blk_below HX.out b2)
        have HS2 := hd (HS.out.bound.below b2)
        have HC2 := hd (hS2.bound)
        have HQ := hd (SameP.get HK.out.nd hq)
        have HZ : Hd (w.heap.size < wr.heap.size) := hd (blk_lt HX.out)
        have HZ2 : Hd (wr.heap.size ≤ w2.heap.size) := hd b2.size
        clear b2 hS2 hq HS HB HX hs2
        go_wp2_with fail
        refine (runs_st HS2.out hids4 _).mono ?_
        rintro e w3 ⟨va, rfl, hR, b⟩
        have HB3 : Hd (Below w.heap.size w w3) := hd (below_then HB2.out HB2.out.size b)
        have HX3 := hd (blk_below HX2.out b)
        have HS3 := hd (HS2.out.below b)
        have HC3 := hd (HC2.out.below b)
        have HZ3 : Hd (w2.heap.size ≤ w3.heap.size) := hd b.size
        have HA3 : Hd (Kd.R k56 56 w3 w2.heap.size (fun k => w2.heap.size ≤ k ∧ k < w3.heap.size) va ra) := hd (by rw [← HRA.out]; exact Kd.R_mono (Kd.R_bound hR) fun k hk => ⟨hk.2.1, hk.2.2.1⟩)
        clear b hR HB2 HX2 HS2 HC2
        go_wp2_with fail
        refine (runs_st HC3.out hids4 _).mono ?_
        rintro e w4 ⟨vb, rfl, hR, b⟩
        have HB4 : Hd (Below w.heap.size w w4) := hd (below_then HB3.out HB3.out.size b)
        have HX4 := hd (blk_below HX3.out b)
        have HS4 := hd (HS3.out.below b)
        have HC4 := hd (HC3.out.below b)
        have HZ4 : Hd (w3.heap.size ≤ w4.heap.size) := hd b.size
        have HA4 := hd (Kd.R_below HA3.out b)
        have HV4 : Hd (Kd.R k56 56 w4 w3.heap.size (fun k => w3.heap.size ≤ k ∧ k < w4.heap.size) vb ra) := hd (by rw [← HRA.out, ← runsL_same HQ.out]; exact Kd.R_mono (Kd.R_bound hR) fun k hk => ⟨hk.2.1, hk.2.2.1⟩)
        clear b hR HB3 HX3 HS3 HC3 HA3
        obtain ⟨Aa, ca, rfl, hca, hCa⟩ := Kd.R_reads HA4.out
        obtain ⟨Ab, cb, rfl, hcb, hCb⟩ := Kd.R_reads HV4.out
        go_wp2_with fail
        refine (musterlaw27_sameRuns.calls 5000 Aa ca ra Ab cb ra true w4 hCa hca hCb hcb (sr_spec _ (by omega) 5000 (by omega))).mono ?_
        rintro e w_ ⟨rfl, nd, rfl⟩
        have HB5 : Hd (Below w.heap.size w (w4.drewN nd)) := hd (pw_below_drewN HB4.out nd)
        have HX5 : Hd ((w4.drewN nd).heap[w.heap.size]? = _) := hd HX4.out
        have HS5 := hd (HS4.out.drewN nd)
        have HC5 := hd (HC4.out.drewN nd)
        have HA5 := hd (Kd.R_drewN HA4.out nd)
        have HV5 := hd (Kd.R_drewN HV4.out nd)
        have HZ5 : Hd (w4.heap.size ≤ (w4.drewN nd).heap.size) := hd (Nat.le_refl _)
        clear hCa hCb HB4 HX4 HS4 HC4 HA4 HV4
        generalize w4.drewN nd = w5 at HB5 HX5 HS5 HC5 HA5 HV5 HZ5 ⊢
        have r0 := (blk_cell HX5.out 0).trans rfl
        have r1 := (blk_cell HX5.out 1).trans rfl
        have r2 := (blk_cell HX5.out 2).trans rfl
        have r3 := (blk_cell HX5.out 3).trans rfl
        have r4 := (blk_cell HX5.out 4).trans rfl
        have r5 := (blk_cell HX5.out 5).trans rfl
        have r6 := (blk_cell HX5.out 6).trans rfl
        have r7 := (blk_cell HX5.out 7).trans rfl
        go_wp2_with fail
        refine (take_st (ok := fun k => (wr.heap.size ≤ k ∧ k < w2.heap.size) ∨ w5.heap.size ≤ k) (HC5.out.mono fun k h => .inl h) (fun k h => .inr h) (by have := HZ2.out; have := HZ3.out; have := HZ4.out; have := HZ5.out; omega) (idsP_rise _) hids4 (pastS x1)).mono ?_
        rintro e w6 ⟨rfl, -, hO⟩
        have HB6 : Hd (Below w.heap.size w w6) := hd (hO.to_below (fun k h => by have := HZ.out; have := HZ2.out; have := HZ3.out; have := HZ4.out; have := HZ5.out; omega) HB5.out HB5.out.size)
        have HS6 := hd (HS5.out.off hO fun k h h' => by have := HZ2.out; have := HZ3.out; have := HZ4.out; have := HZ5.out; omega)
        have HA6 := hd (Kd.R_step HA5.out fun k h hl => hO.block k hl fun h' => by have := HZ3.out; have := HZ4.out; have := HZ5.out; omega)
        have HV6 := hd (Kd.R_step HV5.out fun k h hl => hO.block k hl fun h' => by have := HZ3.out; have := HZ4.out; have := HZ5.out; omega)
        have HZ6 : Hd (w5.heap.size ≤ w6.heap.size) := hd hO.size
        clear hO r0 r1 r2 r3 r4 r5 r6 r7 HB5 HX5 HS5 HC5 HA5 HV5
        go_wp2_with fail
        refine (runs_st HS6.out hids4 _).mono ?_
        rintro e w7 ⟨ve, rfl, hR, b⟩
        obtain ⟨Ae, ce, rfl, hce, hCe⟩ := Kd.R_reads hR
        rw [HRA.out] at hce hCe ⊢
        have HB7 : Hd (Below w.heap.size w w7) := hd (below_then HB6.out HB6.out.size b)
        have HS7 := hd (HS6.out.below b)
        have HA7 := hd (Kd.R_below HA6.out b)
        have HV7 := hd (Kd.R_below HV6.out b)
        have HZ7 : Hd (w6.heap.size ≤ w7.heap.size) := hd b.size
        clear b hR HB6 HS6 HA6 HV6
        obtain ⟨_, _, hCa⟩ := Kd.R_reads' HA7.out
        go_wp2_with fail
        refine (musterlaw27_sameRuns.calls 5000 Ae ce ra Aa ca ra true w7 hCe hce hCa hca (sr_spec _ (by omega) 5000 (by omega))).mono ?_
        rintro e w_ ⟨rfl, nd8, rfl⟩
        have HB8 : Hd (Below w.heap.size w (w7.drewN nd8)) := hd (pw_below_drewN HB7.out nd8)
        have HS8 := hd (HS7.out.drewN nd8)
        have HA8 := hd (Kd.R_drewN HA7.out nd8)
        have HV8 := hd (Kd.R_drewN HV7.out nd8)
        have HZ8 : Hd (w7.heap.size ≤ (w7.drewN nd8).heap.size) := hd (Nat.le_refl _)
        clear hCa hCe hce HB7 HS7 HA7 HV7
        generalize w7.drewN nd8 = w8 at HB8 HS8 HA8 HV8 HZ8 ⊢
        go_wp2_with fail
        refine (hours_st HS8.out hids4 _ 0 90000).mono ?_
        rintro e w9 ⟨vx, rfl, hR, b⟩
        rw [HG.out] at hR ⊢
        have HB9 : Hd (Below w.heap.size w w9) := hd (below_then HB8.out HB8.out.size b)
        have HS9 := hd (HS8.out.below b)
        have HA9 := hd (Kd.R_below HA8.out b)
        have HV9 := hd (Kd.R_below HV8.out b)
        have HZ9 : Hd (w8.heap.size ≤ w9.heap.size) := hd b.size
        have HP9 : Hd (Kd.R (Kd.int .i64) 2 w9 w8.heap.size (fun k => w8.heap.size ≤ k ∧ k < w9.heap.size) vx g1) := hd (Kd.R_mono (Kd.R_bound hR) fun k hk => ⟨hk.2.1, hk.2.2.1⟩)
        clear b hR HB8 HS8 HA8 HV8
        go_wp2_with fail
        refine (hours_st HS9.out hids4 _ 0 90000).mono ?_
        rintro e w10 ⟨vy, rfl, hR, b⟩
        rw [HG.out] at hR ⊢
        have HB10 : Hd (Below w.heap.size w w10) := hd (below_then HB9.out HB9.out.size b)
        have HS10 := hd (HS9.out.below b)
        have HA10 := hd (Kd.R_below HA9.out b)
        have HV10 := hd (Kd.R_below HV9.out b)
        have HP10 := hd (Kd.R_below HP9.out b)
        have HZ10 : Hd (w9.heap.size ≤ w10.heap.size) := hd b.size
        have HY10 : Hd (Kd.R (Kd.int .i64) 2 w10 w9.heap.size (fun k => w9.heap.size ≤ k ∧ k < w10.heap.size) vy g1) := hd (Kd.R_mono (Kd.R_bound hR) fun k hk => ⟨hk.2.1, hk.2.2.1⟩)
        clear b hR HB9 HS9 HA9 HV9 HP9
        have HSP := hd (Spoil.start HA10.out)
        clear HA10
        obtain ⟨Ax, cx, rfl⟩ := Kd.R_slice HP10.out
        obtain ⟨Ay, cy, rfl⟩ := Kd.R_slice HY10.out
        go_wp2
        go_loopw [16] (fun iv wq => ∃ i : Nat, i ≤ ra.length ∧ iv = .int .i64 (i : Int) ∧ Hd (Spoil w10 wq Aa w2.heap.size w3.heap.size ra.length)) (fun iv _ => ra.length - (intOf iv).toNat)
        case atStart => exact ⟨0, by omega, rfl, HSP⟩
        case round =>
          clear HSP
          obtain ⟨j, hj, rfl, HSP⟩ := hrel
          by_cases hjn : j < ra.length
          · have hj1 : (j : Int) < (ra.length : Int) := by omega
            obtain ⟨g, cur, e, hg1, hg2, hgc, hcs⟩ := HSP.out.own (by omega)
            cases e
            have hgo : ∃ old, cur[j * 9]? = some old := ⟨_, Array.getElem?_eq_getElem (by omega)⟩
            obtain ⟨old, hold⟩ := hgo
            have s1 := (blk_cell hgc (j * 9)).trans hold
            have s2 := blk_frozen hgc (j * 9)
            go_wp2
            clear s1 s2
            go_roundw
            case rel => exact ⟨j + 1, by omega, by go_num, hd (HSP.out.store rfl ⟨hg1, hg2⟩ hgc hcs _)⟩
            case measure => simp [intOf]; omega
          · have hj1 : ¬ (j : Int) < (ra.length : Int) := by omega
            have HB11 : Hd (Below w.heap.size w wr) := hd (HB10.out.trans ⟨HSP.out.os, HSP.out.tape, HSP.out.output, by rw [HSP.out.size]; exact Nat.le_refl _, fun k hk => HSP.out.block k fun h => by have := HZ.out; have := HZ2.out; omega⟩)
            have HS11 := hd (HS10.out.step fun k hk hl => HSP.out.block k fun h => by have := HZ2.out; omega)
            have HV11 := hd (Kd.R_move HV10.out fun k hk => HSP.out.block k fun h => by omega)
            have HP11 := hd (Kd.R_move HP10.out fun k hk => HSP.out.block k fun h => by have := HZ3.out; have := HZ4.out; have := HZ5.out; have := HZ6.out; have := HZ7.out; have := HZ8.out; omega)
            have HY11 := hd (Kd.R_move HY10.out fun k hk => HSP.out.block k fun h => by have := HZ3.out; have := HZ4.out; have := HZ5.out; have := HZ6.out; have := HZ7.out; have := HZ8.out; have := HZ9.out; omega)
            clear HSP
            go_wp2_with fail
            refine (runs_st HS11.out hids4 _).mono ?_
            rintro e w12 ⟨vz, rfl, hR, b⟩
            obtain ⟨Az, cz, rfl, hcz, hCz⟩ := Kd.R_reads hR
            rw [HRA.out] at hcz hCz ⊢
            have HB12 : Hd (Below w.heap.size w w12) := hd (below_then HB11.out HB11.out.size b)
            have HV12 := hd (Kd.R_below HV11.out b)
            have HP12 := hd (Kd.R_below HP11.out b)
            have HY12 := hd (Kd.R_below HY11.out b)
            clear b hR HB11 HS11 HV11 HP11 HY11
            obtain ⟨_, _, hCb⟩ := Kd.R_reads' HV12.out
            go_wp2_with fail
            refine (musterlaw27_sameRuns.calls 5000 Az cz ra Ab cb ra true w12 hCz hcz hCb hcb (sr_spec _ (by omega) 5000 (by omega))).mono ?_
            rintro e w_ ⟨rfl, nd13, rfl⟩
            have HB13 : Hd (Below w.heap.size w (w12.drewN nd13)) := hd (pw_below_drewN HB12.out nd13)
            have HP13 := hd (Kd.R_drewN HP12.out nd13)
            have HY13 := hd (Kd.R_drewN HY12.out nd13)
            clear hCb hCz hcz HB12 HV12 HP12 HY12
            generalize w12.drewN nd13 = w13 at HB13 HP13 HY13 ⊢
            obtain ⟨_, hcx, hCx⟩ := Kd.R_reads' HP13.out
            obtain ⟨_, hcy, hCy⟩ := Kd.R_reads' HY13.out
            go_wp2_with fail
            refine (musterlow_SameNumbers.calls 1001 Ax cx g1 Ay cy g1 true w13 hCx hcx hCy hcy (same_spec _ (by omega) 1001 (by omega))).mono ?_
            rintro e w_ ⟨rfl, nd14, rfl⟩
            have HB14 : Hd (Below w.heap.size w (w13.drewN nd14)) := hd (pw_below_drewN HB13.out nd14)
            have HP14 := hd (Kd.R_drewN HP13.out nd14)
            have HY14 := hd (Kd.R_drewN HY13.out nd14)
            clear hCx hCy hcx hcy HB13 HP13 HY13
            generalize w13.drewN nd14 = w14 at HB14 HP14 HY14 ⊢
            go_wp2_with fail
            have hba := below_alloc (Below.refl _ w14) (.cells #[.slice Ax g1.length cx, .slice Ay g1.length cy] 22)
            obtain ⟨ix, ox⟩ := Kd.R_own (Kd.R_lower (Kd.R_below HP14.out hba) (base' := w.heap.size) (by have := HZ.out; have := HZ2.out; have := HZ3.out; have := HZ4.out; have := HZ5.out; have := HZ6.out; have := HZ7.out; have := HZ8.out; omega))
            obtain ⟨iy, oy⟩ := Kd.R_own (Kd.R_lower (Kd.R_below HY14.out hba) (base' := w.heap.size) (by have := HZ.out; have := HZ2.out; have := HZ3.out; have := HZ4.out; have := HZ5.out; have := HZ6.out; have := HZ7.out; have := HZ8.out; have := HZ9.out; omega))
            obtain ⟨_, ox'⟩ := Kd.R_own HP14.out
            obtain ⟨_, oy'⟩ := Kd.R_own HY14.out
            have HPH : Ph1 (w14.alloc (.cells #[.slice Ax g1.length cx, .slice Ay g1.length cy] 22)) w.heap.size w14.heap.size (.slice Ax g1.length cx) (.slice Ay g1.length cy) g1.length g1.length ix iy :=
              ⟨HB14.out.size, blk_new w14 _, ox, oy, fun e => Nat.lt_irrefl _ (ox'.lt _ e).2, fun e => Nat.lt_irrefl _ (oy'.lt _ e).2, fun b e e' => by have h1_ := HP14.out.1 b e; have h2_ := HY14.out.1 b e'; omega⟩
            refine (apart_walk _ w.heap.size _ _ _ _ _ _ _ HPH (by have := HB14.out.size; simp; omega) hgl hgl).mono ?_
            rintro e w15 ⟨rfl, b⟩
            have HB15 : Hd (Below w.heap.size w w15) := hd (b w (below_alloc HB14.out _))
            clear b HPH oy' ox' oy ox hba HB14 HP14 HY14
            go_wp2_with fail
            refine (awake_walk w15).mono ?_
            rintro e w16 ⟨rfl, b⟩
            have HB16 : Hd (Below w.heap.size w w16) := hd (below_then HB15.out HB15.out.size b)
            clear b HB15
            go_wp2
            go_ret
            exact ⟨rfl, HB16.out⟩
def musterlaw27_AccountApart.f (l0 : List S36) (a0 : Int) (a1 : Int) (a2 : Int) (a3 a4 : ByteArray) (a5 a6 a7 : Int) : Option Bool := some true
theorem musterlaw27_AccountApart.calls (A0 : Option Addr) (c0 : Nat) (l0 : List S36) (x0 x1 x2 : Int) (x3 x4 : ByteArray) (x5 x6 x7 : Int) (r : Bool) (w : World) (hr0 : Kd.C k36 w A0 l0.length l0) (hc0 : l0.length ≤ c0) (h : musterlaw27_AccountApart.f l0 x0 x1 x2 x3 x4 x5 x6 x7 = some r) :
    Calls Try.prog 7 #[.slice A0 l0.length c0, .agg #[.int .i64 x0, .int .u8 x1, .int .i64 x2, .string x3, .string x4, .int .i64 x5, .int .i64 x6, .int .u8 x7]] w fun e w' => e = .returned (.bool r) ∧ Below w.heap.size w w' := by
  cases h
  exact apartA_walk A0 c0 l0 ⟨x0, x1, x2, x3, x4, x5, x6, x7⟩ w hr0 hc0
end Go.Proofs.Ytinpgejkkfpckaa.Pr
