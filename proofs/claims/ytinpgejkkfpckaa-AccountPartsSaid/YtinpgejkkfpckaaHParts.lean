/-
  musterlaw27.AccountParts, by hand: what is used adds up over time, hours to days, and accounts.
-/
import Derived.Test.YtinpgejkkfpckaaHAwake
import Derived.Test.YtinpgejkkfpckaaQParts
import Derived.Test.YtinpgejkkfpckaaQ8
import Derived.Test.YtinpgejkkfpckaaHSt
import Derived.Deep.CutBlock
import Derived.Deep.DeepCutAuto
namespace Go.Proofs.Ytinpgejkkfpckaa.Pr
open Go.RowKit Go.Proofs.YtinpgejkkfpckaaW.PrintWords Go.Proofs.YtinpgejkkfpckaaW.PrintLast Go.Proofs.YtinpgejkkfpckaaW.PrintMore Go.Proofs.YtinpgejkkfpckaaG
attribute [local go_sem] max2_int min2_int max_two min_two max_three min_three max_four min_four
set_option linter.unusedVariables false
set_option linter.unusedSimpArgs false
def parts.T10 : Bool × List (List Nat × List Nat) := (true, [([], []), ([], []), ([], []), ([], []), ([2, 3], [2, 3]), ([4], [4]), ([], []), ([], []), ([6, 7], [6, 7]), ([8], [8]), ([9], [9]), ([5, 10], [5, 10]), ([0, 1, 0, 1, 2, 3, 4, 5, 6, 7, 8, 9, 10, 11], [0, 1]), ([12, 11, 0, 1, 2, 3, 4, 5, 6, 7, 8, 9, 10, 11], [11, 12])])
def parts.B10 : List Nat := [0, 0, 0, 0, 12, 28, 0, 0, 192, 448, 960, 2044, 4095, 8191]
theorem parts.tab10 : rtab .any (opsOf Try.f6 10) = parts.T10 := by kernel_rfl
theorem parts.bits10 : waitsOk parts.T10.2 parts.B10 = true := by kernel_rfl
def parts.T11 : Bool × List (List Nat × List Nat) := (true, [([], []), ([0], [0]), ([1], [1]), ([], []), ([3], [3]), ([4], [4]), ([], []), ([6], [6]), ([7], [7]), ([2, 5, 8], [2, 5, 8]), ([], []), ([10], [10]), ([11], [11]), ([], []), ([13], [13]), ([14], [14]), ([], []), ([16], [16]), ([17], [17]), ([12, 15, 18], [12, 15, 18]), ([9, 0, 1, 2, 3, 4, 5, 6, 7, 8, 9], [9]), ([19, 20, 0, 1, 2, 3, 4, 5, 6, 7, 8, 9, 10, 11, 12, 13, 14, 15, 16, 17, 18, 19, 20], [19])])
def parts.B11 : List Nat := [0, 1, 3, 0, 8, 24, 0, 64, 192, 511, 0, 1024, 3072, 0, 8192, 24576, 0, 65536, 196608, 523264, 1023, 2097151]
theorem parts.tab11 : rtab .any (opsOf Try.f6 11) = parts.T11 := by kernel_rfl
theorem parts.bits11 : waitsOk parts.T11.2 parts.B11 = true := by kernel_rfl
def parts.T12 : Bool × List (List Nat × List Nat) := (true, [([], []), ([0], [0]), ([1], [1]), ([], []), ([3], [3]), ([4], [4]), ([2, 5], [2, 5]), ([], []), ([7], [7]), ([8], [8]), ([6, 9], [6, 9]), ([], []), ([10, 11], [10, 11]), ([], []), ([12, 13], [12, 13]), ([14, 0, 1, 2, 3, 4, 5, 6, 7, 8, 9, 10, 11, 12, 13, 14], [14])])
def parts.B12 : List Nat := [0, 1, 3, 0, 8, 24, 63, 0, 128, 384, 1023, 0, 4095, 0, 16383, 32767]
theorem parts.tab12 : rtab .any (opsOf Try.f6 12) = parts.T12 := by kernel_rfl
theorem parts.bits12 : waitsOk parts.T12.2 parts.B12 = true := by kernel_rfl
def parts.T35 : Bool × List (List Nat × List Nat) := (true, [([], []), ([0], [0]), ([1], [1]), ([1], [1]), ([2, 3, 1], [1, 2, 3]), ([4, 1], [1, 4]), ([5, 1], [1, 5]), ([1], [1]), ([1], [1]), ([7, 8, 1], [1, 7, 8]), ([9, 1], [1, 9]), ([10, 1], [1, 10]), ([6, 11, 1], [1, 6, 11]), ([1, 12], [1, 12]), ([13, 1, 0, 1, 2, 3, 4, 5, 6, 7, 8, 9, 10, 11, 12, 13], [0, 13])])
def parts.B35 : List Nat := [0, 1, 3, 3, 15, 31, 63, 3, 3, 387, 899, 1923, 4095, 8191, 16383]
theorem parts.tab35 : rtab .any (opsOf Try.f6 35) = parts.T35 := by kernel_rfl
theorem parts.bits35 : waitsOk parts.T35.2 parts.B35 = true := by kernel_rfl
theorem ba_full {a : ByteArray} (h : ¬ a = ByteArray.empty) : a.toList.isEmpty = false := by
  cases he : a.toList with
  | nil => exact absurd (ba_empty he) h
  | cons x l => rfl
theorem ba_beq (a b : ByteArray) : (a.toList == b.toList) = decide (a = b) := by
  by_cases h : a = b
  · subst h; simp
  · rw [decide_eq_false h, beq_eq_false_iff_ne]
    exact fun e => h (ba_eq e)
theorem add_zz (ad : Addr) : ad.add 0 = ad := by unfold Addr.add; cases ad; simp
theorem hold_ {p : Prop} (h : Hd p) : p := h.out
def absI (x : Int) : Int := if x < 0 then -x else x
theorem abs_is {x : Int} (h : -1099511627776 ≤ x ∧ x ≤ 1099511627776) : (if x < wrap64 (-x) then wrap64 (-x) else x) = absI x := by
  rw [w64 (x := -x) ⟨by omega, by omega⟩]
  unfold absI
  split <;> split <;> omega
theorem tmod_top (b : Int) : -1099511627776 ≤ Int.tmod b 1099511627777 ∧ Int.tmod b 1099511627777 ≤ 1099511627776 := by
  have h1 := Int.tmod_lt_of_pos b (by decide : (0 : Int) < 1099511627777)
  have h2 := Int.lt_tmod_of_pos b (by decide : (0 : Int) < 1099511627777)
  omega
set_option maxRecDepth 100000 in
set_option maxHeartbeats 1500000 in
theorem parts_walk (A : Option Addr) (c : Nat) (l : List S36) (b0 b1 b2 day : Int) (w : World) (hr : Kd.C k36 w A l.length l) (hc : l.length ≤ c) :
    Calls Try.prog 6 #[.slice A l.length c, .int .i64 b0, .int .i64 b1, .int .i64 b2, .int .i64 day] w fun e w' => e = .returned (.bool true) ∧ Below w.heap.size w w' := by
  have hu36 := Try.underlying36
  have hlen : l.length ≤ 9223372036854775807 := hr.2.1
  have HR := hd hr
  clear hr
  go_enter Try.func6, Try.ntmps6
  go_wp2_with fail
  refine (new_st w (fun k => w.heap.size ≤ k) (fun _ h => h)).mono ?_
  rintro e w1 ⟨s, rfl, hs, hS, hb⟩
  have HB1 := hd hb
  have S1 := hd hS
  clear hb hS hs
  go_upto_block 0 with fail
  go_cut [12] from 47 to 62 (fun iv wr => ∃ (i : Nat) (P : List Past) (okS : Nat → Prop), iv = .int .i64 (i : Int) ∧ Hd (KnownP P 40) ∧ Hd (∀ k, okS k → w.heap.size ≤ k) ∧ Hd (St wr w.heap.size okS s P (idsP P)) ∧ Hd (Below w.heap.size w wr))
  case first =>
    go_wp2
    go_loopw [12] (fun iv wr => ∃ (i : Nat) (P : List Past), i ≤ l.length ∧ i ≤ 40 ∧ iv = .int .i64 (i : Int) ∧ Hd (KnownP P i) ∧ ∃ (okS : Nat → Prop), Hd (∀ k, okS k → w.heap.size ≤ k) ∧ Hd (St wr w.heap.size okS s P (idsP P)) ∧ Hd (Below w.heap.size w wr)) (fun iv _ => l.length - (intOf iv).toNat)
    case atStart => exact ⟨0, [], by omega, by omega, rfl, hd KnownP.nil, fun k => w.heap.size ≤ k, hd (fun _ h => h), S1, HB1⟩
    case round =>
      obtain ⟨i, P, hi, hi40, rfl, HK, okS, HBA, HS, HB⟩ := hrel
      by_cases hmore : i < l.length ∧ i < 40
      · obtain ⟨hlt, hlt40⟩ := hmore
        obtain ⟨ad, rfl, q0, q1, q2, q3, q4, q5, q6, q7⟩ := at_T36 (Kd.C_below HR.out HB.out) (i : Int) (by omega) (by omega)
        obtain ⟨x, hx⟩ : ∃ x, rd_T36 l (i : Int) = x := ⟨_, rfl⟩
        rw [hx, Int.toNat_natCast] at q0 q1 q2 q3 q4 q5 q6 q7
        clear hx
        have hi1 : (i : Int) < (l.length : Int) := by omega
        have hi2 : (i : Int) < 40 := by omega
        have hids := HK.out.ids
        go_wp2_with fail
        refine (take_st (ok := fun k => okS k ∨ wr.heap.size ≤ k) (HS.out.mono fun k h => .inl h) (fun k h => .inr h) HB.out.size (idsP_rise _) (by omega) (pastS x)).mono ?_
        rintro e w2 ⟨rfl, hS2, hO2⟩
        have HB2 : Hd (Below w.heap.size w w2) := hd (hO2.to_below (fun k h => h.elim (HBA.out k) (fun h => Nat.le_trans HB.out.size h)) HB.out HB.out.size)
        rw [takeP_state] at hS2
        have HS2 := hd hS2
        have HZ : Hd (w.heap.size ≤ wr.heap.size) := hd HB.out.size
        clear hS2 hO2 q0 q1 q2 q3 q4 q5 q6 q7 HS HB
        go_wp2
        go_roundw
        case rel => exact ⟨i + 1, takeP P (pastS x), by omega, by omega, by go_num, hd (HK.out.take _), _, hd (fun k h => h.elim (HBA.out k) (fun h => Nat.le_trans HZ.out h)), HS2, HB2⟩
        case measure => simp [intOf]; omega
      · by_cases hlt : i < l.length
        · have hi1 : (i : Int) < (l.length : Int) := by omega
          have hi2 : ¬ (i : Int) < 40 := by omega
          go_wp2
          go_meet
          case rel => exact ⟨i, P, okS, rfl, hd (HK.out.mono hi40), HBA, HS, HB⟩
        · have hi1 : ¬ (i : Int) < (l.length : Int) := by omega
          go_wp2
          go_meet
          case rel => exact ⟨i, P, okS, rfl, hd (HK.out.mono hi40), HBA, HS, HB⟩
  case rest =>
    clear S1 HB1
    obtain ⟨i, P, okS, rfl, HK, HBA, HS, HB⟩ := hcut
    have hids := HK.out.ids
    have hids4 : (idsP P).length ≤ 4096 := by omega
    have bt0 : -1099511627776 ≤ Int.tmod b0 1099511627777 ∧ Int.tmod b0 1099511627777 ≤ 1099511627776 := tmod_top b0
    have bt1 : -1099511627776 ≤ Int.tmod b1 1099511627777 ∧ Int.tmod b1 1099511627777 ≤ 1099511627776 := tmod_top b1
    have bt2 : -1099511627776 ≤ Int.tmod b2 1099511627777 ∧ Int.tmod b2 1099511627777 ≤ 1099511627776 := tmod_top b2
    go_upto_block 2 with fail
    generalize Int.tmod b0 1099511627777 = x0 at bt0 ⊢
    generalize Int.tmod b1 1099511627777 = x1 at bt1 ⊢
    generalize Int.tmod b2 1099511627777 = x2 at bt2 ⊢
    have HX1 := hd (blk_new wc (.cells #[.int .i64 x0, .int .i64 x1, .int .i64 x2] 2))
    have HS2 := hd (HS.out.alloc (.cells #[.int .i64 x0, .int .i64 x1, .int .i64 x2] 2))
    have HB2 : Hd (Below w.heap.size w (wc.alloc (.cells #[.int .i64 x0, .int .i64 x1, .int .i64 x2] 2))) := hd (below_alloc HB.out _)
    have HG : Hd (w.heap.size ≤ wc.heap.size ∧ ∀ k, okS k → k < wc.heap.size → k ≠ wc.heap.size) := hd ⟨HB.out.size, fun k _ h => by omega⟩
    have HS3 := hd (HS.out.bound.below (below_alloc (Below.refl _ wc) (.cells #[.int .i64 x0, .int .i64 x1, .int .i64 x2] 2)))
    clear HS HB HS2
    generalize wc.alloc _ = w2 at HX1 HS3 HB2 ⊢
    generalize wc.heap.size = g at HX1 HS3 HB2 HG ⊢
    go_cut [14] from 70 to 86 (fun iv wr => ∃ (y0 y1 y2 : Int), iv = .int .i64 3 ∧ Hd (0 ≤ y0 ∧ y0 ≤ 1099511627776) ∧ Hd (0 ≤ y1 ∧ y1 ≤ 1099511627776) ∧ Hd (0 ≤ y2 ∧ y2 ≤ 1099511627776) ∧ Hd (wr.heap[g]? = some (.cells #[.int .i64 y0, .int .i64 y1, .int .i64 y2] 2 (0, 0))) ∧ Hd (St wr w.heap.size (fun k => okS k ∧ k < g) s P (idsP P)) ∧ Hd (Below w.heap.size w wr))
    case first =>
      go_wp2_with fail
      go_loopw [14] (fun iv wr => ∃ (j : Nat) (y0 y1 y2 : Int), (j = 0 ∧ y0 = x0 ∧ y1 = x1 ∧ y2 = x2 ∨ j = 1 ∧ y0 = absI x0 ∧ y1 = x1 ∧ y2 = x2 ∨ j = 2 ∧ y0 = absI x0 ∧ y1 = absI x1 ∧ y2 = x2 ∨ j = 3 ∧ y0 = absI x0 ∧ y1 = absI x1 ∧ y2 = absI x2) ∧ iv = .int .i64 (j : Int) ∧ Hd (wr.heap[g]? = some (.cells #[.int .i64 y0, .int .i64 y1, .int .i64 y2] 2 (0, 0))) ∧ Hd (St wr w.heap.size (fun k => okS k ∧ k < g) s P (idsP P)) ∧ Hd (Below w.heap.size w wr)) (fun iv _ => 3 - (intOf iv).toNat)
      case atStart => exact ⟨0, x0, x1, x2, .inl ⟨rfl, rfl, rfl, rfl⟩, rfl, HX1, HS3, HB2⟩
      case round =>
        clear HX1 HS3 HB2
        obtain ⟨j, y0, y1, y2, hy, rfl, HX, HS, HB⟩ := hrel
        rcases hy with ⟨rfl, e0, e1, e2⟩ | ⟨rfl, e0, e1, e2⟩ | ⟨rfl, e0, e1, e2⟩ | ⟨rfl, e0, e1, e2⟩
        · have E0 := hd e0
          have E1 := hd e1
          have E2 := hd e2
          clear e0 e1 e2
          have s0 : wr.cell? ⟨g, 0, none⟩ = some (.int .i64 y0) := (blk_cell HX.out 0).trans rfl
          go_wp2_with fail
          clear s0
          replace HX : Hd (wr.drew.heap[g]? = _) := hd HX.out
          replace HS := hd (HS.out.drewN 1)
          replace HS : Hd (St wr.drew _ _ _ _ _) := HS
          replace HB : Hd (Below w.heap.size w wr.drew) := hd (below_drew1 HB.out)
          refine start_ (n := 14) (S := fun w' => w'.cell? ⟨g, 0, none⟩ = some (.int .i64 y0)) (ds := [13]) #[false, false, false, false, false, false, false, false, false, false, false, false, false, false] (by kernel_rfl) rfl rfl ((blk_cell HX.out 0).trans rfl) (fun hHeld => ?_)
          refine with_tabW parts.tab10 parts.bits10 (fun HT_ HW_ => ?_)
          generalize wr.drew = w6 at HX HS HB hHeld ⊢
          refine pure_ (i := 0) (N := (some 74)) (v := ?_) (a' := ?_) #[true, false, false, false, false, false, false, false, false, false, false, false, false, false] rfl rfl (any_of HT_.out (by kernel_rfl)) (fun _ _ _ h => h) (Or.inl ⟨by rfl, ?_⟩) ?_ ?_
          rotate_left
          · intro w'
            go_simp
            with_reducible rfl
          rotate_left
          · simp only [Act.put, List.setIfInBounds_toArray, List.set_cons_zero, List.set_cons_succ, i64_w, i32_w]
            rfl
          refine pure_ (i := 1) (N := (some 75)) (v := ?_) (a' := ?_) #[true, true, false, false, false, false, false, false, false, false, false, false, false, false] rfl rfl (any_of HT_.out (by kernel_rfl)) (fun _ _ _ h => h) (Or.inl ⟨by rfl, ?_⟩) ?_ ?_
          rotate_left
          · intro w'
            go_simp
            with_reducible rfl
          rotate_left
          · simp only [Act.put, List.setIfInBounds_toArray, List.set_cons_zero, List.set_cons_succ, i64_w, i32_w]
            rfl
          refine pure_ (i := 2) (N := (some 76)) (v := ?_) (a' := ?_) #[true, true, true, false, false, false, false, false, false, false, false, false, false, false] rfl rfl (any_of HT_.out (by kernel_rfl)) (fun _ _ _ h => h) (Or.inl ⟨by rfl, ?_⟩) ?_ ?_
          rotate_left
          · intro w'
            go_simp
            with_reducible rfl
          rotate_left
          · simp only [Act.put, List.setIfInBounds_toArray, List.set_cons_zero, List.set_cons_succ, i64_w, i32_w]
            rfl
          refine pure_ (i := 3) (N := (some 77)) (v := ?_) (a' := ?_) #[true, true, true, true, false, false, false, false, false, false, false, false, false, false] rfl rfl (any_of HT_.out (by kernel_rfl)) (fun _ _ _ h => h) (Or.inl ⟨by rfl, ?_⟩) ?_ ?_
          rotate_left
          · intro w'
            go_simp
            with_reducible rfl
          rotate_left
          · simp only [Act.put, List.setIfInBounds_toArray, List.set_cons_zero, List.set_cons_succ, i64_w, i32_w]
            rfl
          refine pure_ (i := 4) (N := (some 78)) (v := ?_) (a' := ?_) #[true, true, true, true, true, false, false, false, false, false, false, false, false, false] rfl rfl (any_of HT_.out (by kernel_rfl)) (fun _ _ _ h => h) (Or.inl ⟨by rfl, ?_⟩) ?_ ?_
          rotate_left
          · intro w'
            go_simp
            with_reducible rfl
          rotate_left
          · simp only [Act.put, List.setIfInBounds_toArray, List.set_cons_zero, List.set_cons_succ, i64_w, i32_w]
            rfl
          refine take_ (i := 5) (N := (some 79)) (v := ?_) (a' := ?_) #[true, true, true, true, true, true, false, false, false, false, false, false, false, false] rfl rfl (take_ofW HT_.out HW_.out (by kernel_rfl)) (fun _ _ _ h => h) (Or.inl ⟨by rfl, ?_⟩) hHeld ?_ ?_
          rotate_left
          · rintro w' s0
            go_simp
            with_reducible rfl
          rotate_left
          · simp only [Act.put, List.setIfInBounds_toArray, List.set_cons_zero, List.set_cons_succ, i64_w, i32_w]
            rfl
          refine pure_ (i := 6) (N := (some 80)) (v := ?_) (a' := ?_) #[true, true, true, true, true, true, true, false, false, false, false, false, false, false] rfl rfl (any_of HT_.out (by kernel_rfl)) (fun _ _ _ h => h) (Or.inl ⟨by rfl, ?_⟩) ?_ ?_
          rotate_left
          · intro w'
            go_simp
            with_reducible rfl
          rotate_left
          · simp only [Act.put, List.setIfInBounds_toArray, List.set_cons_zero, List.set_cons_succ, i64_w, i32_w]
            rfl
          refine pure_ (i := 7) (N := (some 81)) (v := ?_) (a' := ?_) #[true, true, true, true, true, true, true, true, false, false, false, false, false, false] rfl rfl (any_of HT_.out (by kernel_rfl)) (fun _ _ _ h => h) (Or.inl ⟨by rfl, ?_⟩) ?_ ?_
          rotate_left
          · intro w'
            go_simp
            with_reducible rfl
          rotate_left
          · simp only [Act.put, List.setIfInBounds_toArray, List.set_cons_zero, List.set_cons_succ, i64_w, i32_w]
            rfl
          refine pure_ (i := 8) (N := (some 82)) (v := ?_) (a' := ?_) #[true, true, true, true, true, true, true, true, true, false, false, false, false, false] rfl rfl (any_of HT_.out (by kernel_rfl)) (fun _ _ _ h => h) (Or.inl ⟨by rfl, ?_⟩) ?_ ?_
          rotate_left
          · intro w'
            go_simp
            with_reducible rfl
          rotate_left
          · simp only [Act.put, List.setIfInBounds_toArray, List.set_cons_zero, List.set_cons_succ, i64_w, i32_w]
            rfl
          refine take_ (i := 9) (N := (some 83)) (v := ?_) (a' := ?_) #[true, true, true, true, true, true, true, true, true, true, false, false, false, false] rfl rfl (take_ofW HT_.out HW_.out (by kernel_rfl)) (fun _ _ _ h => h) (Or.inl ⟨by rfl, ?_⟩) hHeld ?_ ?_
          rotate_left
          · rintro w' s0
            go_simp
            with_reducible rfl
          rotate_left
          · simp only [Act.put, List.setIfInBounds_toArray, List.set_cons_zero, List.set_cons_succ, i64_w, i32_w]
            rfl
          refine pure_ (i := 10) (N := (some 84)) (v := ?_) (a' := ?_) #[true, true, true, true, true, true, true, true, true, true, true, false, false, false] rfl rfl (any_of HT_.out (by kernel_rfl)) (fun _ _ _ h => h) (Or.inl ⟨by rfl, ?_⟩) ?_ ?_
          rotate_left
          · intro w'
            go_simp
            with_reducible rfl
          rotate_left
          · simp only [Act.put, List.setIfInBounds_toArray, List.set_cons_zero, List.set_cons_succ, i64_w, i32_w]
            rfl
          refine pure_ (i := 11) (N := (some 85)) (v := ?_) (a' := ?_) #[true, true, true, true, true, true, true, true, true, true, true, true, false, false] rfl rfl (any_of HT_.out (by kernel_rfl)) (fun _ _ _ h => h) (Or.inl ⟨by rfl, ?_⟩) ?_ ?_
          rotate_left
          · intro w'
            go_simp
            with_reducible rfl
          rotate_left
          · simp only [Act.put, List.setIfInBounds_toArray, List.set_cons_zero, List.set_cons_succ, i64_w, i32_w]
            rfl
          refine pure_ (i := 12) (N := (some 86)) (v := ?_) (a' := ?_) #[true, true, true, true, true, true, true, true, true, true, true, true, true, false] rfl rfl (any_of HT_.out (by kernel_rfl)) (fun _ _ _ h => h) (Or.inl ⟨by rfl, ?_⟩) ?_ ?_
          rotate_left
          · intro w'
            go_simp
            with_reducible rfl
          rotate_left
          · simp only [Act.put, List.setIfInBounds_toArray, List.set_cons_zero, List.set_cons_succ, i64_w, i32_w]
            rfl
          refine last_ (i := 13) (N := none) #[true, true, true, true, true, true, true, true, true, true, true, true, true, true] rfl rfl (one_of HT_.out (by kernel_rfl)) (by decide) (fun K hK => ?_)
          have s1 := (blk_cell HX.out 0).trans rfl
          have s2 := blk_frozen HX.out 0
          refine skip_ (w1 := w6.setCell ⟨g, 0, none⟩ (.int .i64 (if y0 < wrap64 (-y0) then wrap64 (-y0) else y0))) (by rfl) rfl ?_ ?_
          · go_simp
          refine hK.out _ _ ?_
          clear hK K s1 s2
          refine done_ (done_of HT_.out (by kernel_rfl)) ?_
          clear HT_ HW_
          have HS7 := hd ((HS.out.step (w' := w6.setCell ⟨g, 0, none⟩ (.int .i64 (if y0 < wrap64 (-y0) then wrap64 (-y0) else y0))) fun k hk hl => Below.heap_setCell w6 ⟨g, 0, none⟩ _ k (fun e => HG.out.2 k hk.1 hk.2 e)).mono fun k hk => hk.1)
          have HB7 : Hd (Below w.heap.size w (w6.setCell ⟨g, 0, none⟩ (.int .i64 (if y0 < wrap64 (-y0) then wrap64 (-y0) else y0)))) := hd (HB.out.setCell (p := ⟨g, 0, none⟩) HG.out.1 _)
          have HX7 := hd (blk_put HX.out 0 (.int .i64 (if y0 < wrap64 (-y0) then wrap64 (-y0) else y0)) rfl)
          clear HX HS HB
          go_wp2
          go_roundw
          case rel => exact ⟨1, (if y0 < wrap64 (-y0) then wrap64 (-y0) else y0), y1, y2, .inr (.inl ⟨rfl, by rw [E0.out]; exact abs_is bt0, E1.out, E2.out⟩), by go_num, HX7, HS7, HB7⟩
          case measure => simp [intOf]
        · have E0 := hd e0
          have E1 := hd e1
          have E2 := hd e2
          clear e0 e1 e2
          have s0 : wr.cell? ⟨g, 1, none⟩ = some (.int .i64 y1) := (blk_cell HX.out 1).trans rfl
          go_wp2_with fail
          clear s0
          replace HX : Hd (wr.drew.heap[g]? = _) := hd HX.out
          replace HS := hd (HS.out.drewN 1)
          replace HS : Hd (St wr.drew _ _ _ _ _) := HS
          replace HB : Hd (Below w.heap.size w wr.drew) := hd (below_drew1 HB.out)
          refine start_ (n := 14) (S := fun w' => w'.cell? ⟨g, 1, none⟩ = some (.int .i64 y1)) (ds := [13]) #[false, false, false, false, false, false, false, false, false, false, false, false, false, false] (by kernel_rfl) rfl rfl ((blk_cell HX.out 1).trans rfl) (fun hHeld => ?_)
          refine with_tabW parts.tab10 parts.bits10 (fun HT_ HW_ => ?_)
          generalize wr.drew = w6 at HX HS HB hHeld ⊢
          refine pure_ (i := 0) (N := (some 74)) (v := ?_) (a' := ?_) #[true, false, false, false, false, false, false, false, false, false, false, false, false, false] rfl rfl (any_of HT_.out (by kernel_rfl)) (fun _ _ _ h => h) (Or.inl ⟨by rfl, ?_⟩) ?_ ?_
          rotate_left
          · intro w'
            go_simp
            with_reducible rfl
          rotate_left
          · simp only [Act.put, List.setIfInBounds_toArray, List.set_cons_zero, List.set_cons_succ, i64_w, i32_w]
            rfl
          refine pure_ (i := 1) (N := (some 75)) (v := ?_) (a' := ?_) #[true, true, false, false, false, false, false, false, false, false, false, false, false, false] rfl rfl (any_of HT_.out (by kernel_rfl)) (fun _ _ _ h => h) (Or.inl ⟨by rfl, ?_⟩) ?_ ?_
          rotate_left
          · intro w'
            go_simp
            with_reducible rfl
          rotate_left
          · simp only [Act.put, List.setIfInBounds_toArray, List.set_cons_zero, List.set_cons_succ, i64_w, i32_w]
            rfl
          refine pure_ (i := 2) (N := (some 76)) (v := ?_) (a' := ?_) #[true, true, true, false, false, false, false, false, false, false, false, false, false, false] rfl rfl (any_of HT_.out (by kernel_rfl)) (fun _ _ _ h => h) (Or.inl ⟨by rfl, ?_⟩) ?_ ?_
          rotate_left
          · intro w'
            go_simp
            with_reducible rfl
          rotate_left
          · simp only [Act.put, List.setIfInBounds_toArray, List.set_cons_zero, List.set_cons_succ, i64_w, i32_w]
            rfl
          refine pure_ (i := 3) (N := (some 77)) (v := ?_) (a' := ?_) #[true, true, true, true, false, false, false, false, false, false, false, false, false, false] rfl rfl (any_of HT_.out (by kernel_rfl)) (fun _ _ _ h => h) (Or.inl ⟨by rfl, ?_⟩) ?_ ?_
          rotate_left
          · intro w'
            go_simp
            with_reducible rfl
          rotate_left
          · simp only [Act.put, List.setIfInBounds_toArray, List.set_cons_zero, List.set_cons_succ, i64_w, i32_w]
            rfl
          refine pure_ (i := 4) (N := (some 78)) (v := ?_) (a' := ?_) #[true, true, true, true, true, false, false, false, false, false, false, false, false, false] rfl rfl (any_of HT_.out (by kernel_rfl)) (fun _ _ _ h => h) (Or.inl ⟨by rfl, ?_⟩) ?_ ?_
          rotate_left
          · intro w'
            go_simp
            with_reducible rfl
          rotate_left
          · simp only [Act.put, List.setIfInBounds_toArray, List.set_cons_zero, List.set_cons_succ, i64_w, i32_w]
            rfl
          refine take_ (i := 5) (N := (some 79)) (v := ?_) (a' := ?_) #[true, true, true, true, true, true, false, false, false, false, false, false, false, false] rfl rfl (take_ofW HT_.out HW_.out (by kernel_rfl)) (fun _ _ _ h => h) (Or.inl ⟨by rfl, ?_⟩) hHeld ?_ ?_
          rotate_left
          · rintro w' s0
            go_simp
            with_reducible rfl
          rotate_left
          · simp only [Act.put, List.setIfInBounds_toArray, List.set_cons_zero, List.set_cons_succ, i64_w, i32_w]
            rfl
          refine pure_ (i := 6) (N := (some 80)) (v := ?_) (a' := ?_) #[true, true, true, true, true, true, true, false, false, false, false, false, false, false] rfl rfl (any_of HT_.out (by kernel_rfl)) (fun _ _ _ h => h) (Or.inl ⟨by rfl, ?_⟩) ?_ ?_
          rotate_left
          · intro w'
            go_simp
            with_reducible rfl
          rotate_left
          · simp only [Act.put, List.setIfInBounds_toArray, List.set_cons_zero, List.set_cons_succ, i64_w, i32_w]
            rfl
          refine pure_ (i := 7) (N := (some 81)) (v := ?_) (a' := ?_) #[true, true, true, true, true, true, true, true, false, false, false, false, false, false] rfl rfl (any_of HT_.out (by kernel_rfl)) (fun _ _ _ h => h) (Or.inl ⟨by rfl, ?_⟩) ?_ ?_
          rotate_left
          · intro w'
            go_simp
            with_reducible rfl
          rotate_left
          · simp only [Act.put, List.setIfInBounds_toArray, List.set_cons_zero, List.set_cons_succ, i64_w, i32_w]
            rfl
          refine pure_ (i := 8) (N := (some 82)) (v := ?_) (a' := ?_) #[true, true, true, true, true, true, true, true, true, false, false, false, false, false] rfl rfl (any_of HT_.out (by kernel_rfl)) (fun _ _ _ h => h) (Or.inl ⟨by rfl, ?_⟩) ?_ ?_
          rotate_left
          · intro w'
            go_simp
            with_reducible rfl
          rotate_left
          · simp only [Act.put, List.setIfInBounds_toArray, List.set_cons_zero, List.set_cons_succ, i64_w, i32_w]
            rfl
          refine take_ (i := 9) (N := (some 83)) (v := ?_) (a' := ?_) #[true, true, true, true, true, true, true, true, true, true, false, false, false, false] rfl rfl (take_ofW HT_.out HW_.out (by kernel_rfl)) (fun _ _ _ h => h) (Or.inl ⟨by rfl, ?_⟩) hHeld ?_ ?_
          rotate_left
          · rintro w' s0
            go_simp
            with_reducible rfl
          rotate_left
          · simp only [Act.put, List.setIfInBounds_toArray, List.set_cons_zero, List.set_cons_succ, i64_w, i32_w]
            rfl
          refine pure_ (i := 10) (N := (some 84)) (v := ?_) (a' := ?_) #[true, true, true, true, true, true, true, true, true, true, true, false, false, false] rfl rfl (any_of HT_.out (by kernel_rfl)) (fun _ _ _ h => h) (Or.inl ⟨by rfl, ?_⟩) ?_ ?_
          rotate_left
          · intro w'
            go_simp
            with_reducible rfl
          rotate_left
          · simp only [Act.put, List.setIfInBounds_toArray, List.set_cons_zero, List.set_cons_succ, i64_w, i32_w]
            rfl
          refine pure_ (i := 11) (N := (some 85)) (v := ?_) (a' := ?_) #[true, true, true, true, true, true, true, true, true, true, true, true, false, false] rfl rfl (any_of HT_.out (by kernel_rfl)) (fun _ _ _ h => h) (Or.inl ⟨by rfl, ?_⟩) ?_ ?_
          rotate_left
          · intro w'
            go_simp
            with_reducible rfl
          rotate_left
          · simp only [Act.put, List.setIfInBounds_toArray, List.set_cons_zero, List.set_cons_succ, i64_w, i32_w]
            rfl
          refine pure_ (i := 12) (N := (some 86)) (v := ?_) (a' := ?_) #[true, true, true, true, true, true, true, true, true, true, true, true, true, false] rfl rfl (any_of HT_.out (by kernel_rfl)) (fun _ _ _ h => h) (Or.inl ⟨by rfl, ?_⟩) ?_ ?_
          rotate_left
          · intro w'
            go_simp
            with_reducible rfl
          rotate_left
          · simp only [Act.put, List.setIfInBounds_toArray, List.set_cons_zero, List.set_cons_succ, i64_w, i32_w]
            rfl
          refine last_ (i := 13) (N := none) #[true, true, true, true, true, true, true, true, true, true, true, true, true, true] rfl rfl (one_of HT_.out (by kernel_rfl)) (by decide) (fun K hK => ?_)
          have s1 := (blk_cell HX.out 1).trans rfl
          have s2 := blk_frozen HX.out 1
          refine skip_ (w1 := w6.setCell ⟨g, 1, none⟩ (.int .i64 (if y1 < wrap64 (-y1) then wrap64 (-y1) else y1))) (by rfl) rfl ?_ ?_
          · go_simp
          refine hK.out _ _ ?_
          clear hK K s1 s2
          refine done_ (done_of HT_.out (by kernel_rfl)) ?_
          clear HT_ HW_
          have HS7 := hd ((HS.out.step (w' := w6.setCell ⟨g, 1, none⟩ (.int .i64 (if y1 < wrap64 (-y1) then wrap64 (-y1) else y1))) fun k hk hl => Below.heap_setCell w6 ⟨g, 1, none⟩ _ k (fun e => HG.out.2 k hk.1 hk.2 e)).mono fun k hk => hk.1)
          have HB7 : Hd (Below w.heap.size w (w6.setCell ⟨g, 1, none⟩ (.int .i64 (if y1 < wrap64 (-y1) then wrap64 (-y1) else y1)))) := hd (HB.out.setCell (p := ⟨g, 1, none⟩) HG.out.1 _)
          have HX7 := hd (blk_put HX.out 1 (.int .i64 (if y1 < wrap64 (-y1) then wrap64 (-y1) else y1)) rfl)
          clear HX HS HB
          go_wp2
          go_roundw
          case rel => exact ⟨2, y0, (if y1 < wrap64 (-y1) then wrap64 (-y1) else y1), y2, .inr (.inr (.inl ⟨rfl, E0.out, by rw [E1.out]; exact abs_is bt1, E2.out⟩)), by go_num, HX7, HS7, HB7⟩
          case measure => simp [intOf]
        · have E0 := hd e0
          have E1 := hd e1
          have E2 := hd e2
          clear e0 e1 e2
          have s0 : wr.cell? ⟨g, 2, none⟩ = some (.int .i64 y2) := (blk_cell HX.out 2).trans rfl
          go_wp2_with fail
          clear s0
          replace HX : Hd (wr.drew.heap[g]? = _) := hd HX.out
          replace HS := hd (HS.out.drewN 1)
          replace HS : Hd (St wr.drew _ _ _ _ _) := HS
          replace HB : Hd (Below w.heap.size w wr.drew) := hd (below_drew1 HB.out)
          refine start_ (n := 14) (S := fun w' => w'.cell? ⟨g, 2, none⟩ = some (.int .i64 y2)) (ds := [13]) #[false, false, false, false, false, false, false, false, false, false, false, false, false, false] (by kernel_rfl) rfl rfl ((blk_cell HX.out 2).trans rfl) (fun hHeld => ?_)
          refine with_tabW parts.tab10 parts.bits10 (fun HT_ HW_ => ?_)
          generalize wr.drew = w6 at HX HS HB hHeld ⊢
          refine pure_ (i := 0) (N := (some 74)) (v := ?_) (a' := ?_) #[true, false, false, false, false, false, false, false, false, false, false, false, false, false] rfl rfl (any_of HT_.out (by kernel_rfl)) (fun _ _ _ h => h) (Or.inl ⟨by rfl, ?_⟩) ?_ ?_
          rotate_left
          · intro w'
            go_simp
            with_reducible rfl
          rotate_left
          · simp only [Act.put, List.setIfInBounds_toArray, List.set_cons_zero, List.set_cons_succ, i64_w, i32_w]
            rfl
          refine pure_ (i := 1) (N := (some 75)) (v := ?_) (a' := ?_) #[true, true, false, false, false, false, false, false, false, false, false, false, false, false] rfl rfl (any_of HT_.out (by kernel_rfl)) (fun _ _ _ h => h) (Or.inl ⟨by rfl, ?_⟩) ?_ ?_
          rotate_left
          · intro w'
            go_simp
            with_reducible rfl
          rotate_left
          · simp only [Act.put, List.setIfInBounds_toArray, List.set_cons_zero, List.set_cons_succ, i64_w, i32_w]
            rfl
          refine pure_ (i := 2) (N := (some 76)) (v := ?_) (a' := ?_) #[true, true, true, false, false, false, false, false, false, false, false, false, false, false] rfl rfl (any_of HT_.out (by kernel_rfl)) (fun _ _ _ h => h) (Or.inl ⟨by rfl, ?_⟩) ?_ ?_
          rotate_left
          · intro w'
            go_simp
            with_reducible rfl
          rotate_left
          · simp only [Act.put, List.setIfInBounds_toArray, List.set_cons_zero, List.set_cons_succ, i64_w, i32_w]
            rfl
          refine pure_ (i := 3) (N := (some 77)) (v := ?_) (a' := ?_) #[true, true, true, true, false, false, false, false, false, false, false, false, false, false] rfl rfl (any_of HT_.out (by kernel_rfl)) (fun _ _ _ h => h) (Or.inl ⟨by rfl, ?_⟩) ?_ ?_
          rotate_left
          · intro w'
            go_simp
            with_reducible rfl
          rotate_left
          · simp only [Act.put, List.setIfInBounds_toArray, List.set_cons_zero, List.set_cons_succ, i64_w, i32_w]
            rfl
          refine pure_ (i := 4) (N := (some 78)) (v := ?_) (a' := ?_) #[true, true, true, true, true, false, false, false, false, false, false, false, false, false] rfl rfl (any_of HT_.out (by kernel_rfl)) (fun _ _ _ h => h) (Or.inl ⟨by rfl, ?_⟩) ?_ ?_
          rotate_left
          · intro w'
            go_simp
            with_reducible rfl
          rotate_left
          · simp only [Act.put, List.setIfInBounds_toArray, List.set_cons_zero, List.set_cons_succ, i64_w, i32_w]
            rfl
          refine take_ (i := 5) (N := (some 79)) (v := ?_) (a' := ?_) #[true, true, true, true, true, true, false, false, false, false, false, false, false, false] rfl rfl (take_ofW HT_.out HW_.out (by kernel_rfl)) (fun _ _ _ h => h) (Or.inl ⟨by rfl, ?_⟩) hHeld ?_ ?_
          rotate_left
          · rintro w' s0
            go_simp
            with_reducible rfl
          rotate_left
          · simp only [Act.put, List.setIfInBounds_toArray, List.set_cons_zero, List.set_cons_succ, i64_w, i32_w]
            rfl
          refine pure_ (i := 6) (N := (some 80)) (v := ?_) (a' := ?_) #[true, true, true, true, true, true, true, false, false, false, false, false, false, false] rfl rfl (any_of HT_.out (by kernel_rfl)) (fun _ _ _ h => h) (Or.inl ⟨by rfl, ?_⟩) ?_ ?_
          rotate_left
          · intro w'
            go_simp
            with_reducible rfl
          rotate_left
          · simp only [Act.put, List.setIfInBounds_toArray, List.set_cons_zero, List.set_cons_succ, i64_w, i32_w]
            rfl
          refine pure_ (i := 7) (N := (some 81)) (v := ?_) (a' := ?_) #[true, true, true, true, true, true, true, true, false, false, false, false, false, false] rfl rfl (any_of HT_.out (by kernel_rfl)) (fun _ _ _ h => h) (Or.inl ⟨by rfl, ?_⟩) ?_ ?_
          rotate_left
          · intro w'
            go_simp
            with_reducible rfl
          rotate_left
          · simp only [Act.put, List.setIfInBounds_toArray, List.set_cons_zero, List.set_cons_succ, i64_w, i32_w]
            rfl
          refine pure_ (i := 8) (N := (some 82)) (v := ?_) (a' := ?_) #[true, true, true, true, true, true, true, true, true, false, false, false, false, false] rfl rfl (any_of HT_.out (by kernel_rfl)) (fun _ _ _ h => h) (Or.inl ⟨by rfl, ?_⟩) ?_ ?_
          rotate_left
          · intro w'
            go_simp
            with_reducible rfl
          rotate_left
          · simp only [Act.put, List.setIfInBounds_toArray, List.set_cons_zero, List.set_cons_succ, i64_w, i32_w]
            rfl
          refine take_ (i := 9) (N := (some 83)) (v := ?_) (a' := ?_) #[true, true, true, true, true, true, true, true, true, true, false, false, false, false] rfl rfl (take_ofW HT_.out HW_.out (by kernel_rfl)) (fun _ _ _ h => h) (Or.inl ⟨by rfl, ?_⟩) hHeld ?_ ?_
          rotate_left
          · rintro w' s0
            go_simp
            with_reducible rfl
          rotate_left
          · simp only [Act.put, List.setIfInBounds_toArray, List.set_cons_zero, List.set_cons_succ, i64_w, i32_w]
            rfl
          refine pure_ (i := 10) (N := (some 84)) (v := ?_) (a' := ?_) #[true, true, true, true, true, true, true, true, true, true, true, false, false, false] rfl rfl (any_of HT_.out (by kernel_rfl)) (fun _ _ _ h => h) (Or.inl ⟨by rfl, ?_⟩) ?_ ?_
          rotate_left
          · intro w'
            go_simp
            with_reducible rfl
          rotate_left
          · simp only [Act.put, List.setIfInBounds_toArray, List.set_cons_zero, List.set_cons_succ, i64_w, i32_w]
            rfl
          refine pure_ (i := 11) (N := (some 85)) (v := ?_) (a' := ?_) #[true, true, true, true, true, true, true, true, true, true, true, true, false, false] rfl rfl (any_of HT_.out (by kernel_rfl)) (fun _ _ _ h => h) (Or.inl ⟨by rfl, ?_⟩) ?_ ?_
          rotate_left
          · intro w'
            go_simp
            with_reducible rfl
          rotate_left
          · simp only [Act.put, List.setIfInBounds_toArray, List.set_cons_zero, List.set_cons_succ, i64_w, i32_w]
            rfl
          refine pure_ (i := 12) (N := (some 86)) (v := ?_) (a' := ?_) #[true, true, true, true, true, true, true, true, true, true, true, true, true, false] rfl rfl (any_of HT_.out (by kernel_rfl)) (fun _ _ _ h => h) (Or.inl ⟨by rfl, ?_⟩) ?_ ?_
          rotate_left
          · intro w'
            go_simp
            with_reducible rfl
          rotate_left
          · simp only [Act.put, List.setIfInBounds_toArray, List.set_cons_zero, List.set_cons_succ, i64_w, i32_w]
            rfl
          refine last_ (i := 13) (N := none) #[true, true, true, true, true, true, true, true, true, true, true, true, true, true] rfl rfl (one_of HT_.out (by kernel_rfl)) (by decide) (fun K hK => ?_)
          have s1 := (blk_cell HX.out 2).trans rfl
          have s2 := blk_frozen HX.out 2
          refine skip_ (w1 := w6.setCell ⟨g, 2, none⟩ (.int .i64 (if y2 < wrap64 (-y2) then wrap64 (-y2) else y2))) (by rfl) rfl ?_ ?_
          · go_simp
          refine hK.out _ _ ?_
          clear hK K s1 s2
          refine done_ (done_of HT_.out (by kernel_rfl)) ?_
          clear HT_ HW_
          have HS7 := hd ((HS.out.step (w' := w6.setCell ⟨g, 2, none⟩ (.int .i64 (if y2 < wrap64 (-y2) then wrap64 (-y2) else y2))) fun k hk hl => Below.heap_setCell w6 ⟨g, 2, none⟩ _ k (fun e => HG.out.2 k hk.1 hk.2 e)).mono fun k hk => hk.1)
          have HB7 : Hd (Below w.heap.size w (w6.setCell ⟨g, 2, none⟩ (.int .i64 (if y2 < wrap64 (-y2) then wrap64 (-y2) else y2)))) := hd (HB.out.setCell (p := ⟨g, 2, none⟩) HG.out.1 _)
          have HX7 := hd (blk_put HX.out 2 (.int .i64 (if y2 < wrap64 (-y2) then wrap64 (-y2) else y2)) rfl)
          clear HX HS HB
          go_wp2
          go_roundw
          case rel => exact ⟨3, y0, y1, (if y2 < wrap64 (-y2) then wrap64 (-y2) else y2), .inr (.inr (.inr ⟨rfl, E0.out, E1.out, by rw [E2.out]; exact abs_is bt2⟩)), by go_num, HX7, HS7, HB7⟩
          case measure => simp [intOf]
        · have z0 : 0 ≤ y0 ∧ y0 ≤ 1099511627776 := by rw [e0]; unfold absI; split <;> omega
          have z1 : 0 ≤ y1 ∧ y1 ≤ 1099511627776 := by rw [e1]; unfold absI; split <;> omega
          have z2 : 0 ≤ y2 ∧ y2 ≤ 1099511627776 := by rw [e2]; unfold absI; split <;> omega
          clear e0 e1 e2 bt0 bt1 bt2
          have Z0 := hd z0
          have Z1 := hd z1
          have Z2 := hd z2
          clear z0 z1 z2
          go_wp2
          go_meet
          case rel => exact ⟨y0, y1, y2, rfl, Z0, Z1, Z2, HX, HS, HB⟩
    case rest =>
      clear HX1 HS3 HB2
      obtain ⟨y0, y1, y2, rfl, Z0, Z1, Z2, HX, HS, HB⟩ := hcut
      go_wp2_with fail
      replace HX : Hd (wc.drew.heap[g]? = _) := hd HX.out
      replace HS := hd (HS.out.drewN 1)
      replace HS : Hd (St wc.drew _ _ _ _ _) := HS
      replace HB : Hd (Below w.heap.size w wc.drew) := hd (below_drew1 HB.out)
      refine start_ (n := 22) (S := fun w' => w'.cell? ⟨g, 0, none⟩ = some (.int .i64 y0) ∧ w'.cell? ⟨g, 1, none⟩ = some (.int .i64 y1) ∧ w'.cell? ⟨g, 2, none⟩ = some (.int .i64 y2)) (ds := []) #[false, false, false, false, false, false, false, false, false, false, false, false, false, false, false, false, false, false, false, false, false, false] (by kernel_rfl) rfl rfl ⟨(blk_cell HX.out 0).trans rfl, (blk_cell HX.out 1).trans rfl, (blk_cell HX.out 2).trans rfl⟩ (fun hHeld => ?_)
      refine with_tabW parts.tab11 parts.bits11 (fun HT_ HW_ => ?_)
      generalize wc.drew = w6 at HX HS HB hHeld ⊢
      refine pure_ (i := 0) (N := (some 87)) (v := ?_) (a' := ?_) #[true, false, false, false, false, false, false, false, false, false, false, false, false, false, false, false, false, false, false, false, false, false] rfl rfl (any_of HT_.out (by kernel_rfl)) (fun _ _ _ h => h) (Or.inl ⟨by rfl, ?_⟩) ?_ ?_
      rotate_left
      · intro w'
        go_simp
        with_reducible rfl
      rotate_left
      · simp only [Act.put, List.setIfInBounds_toArray, List.set_cons_zero, List.set_cons_succ, i64_w, i32_w]
        rfl
      refine pure_ (i := 1) (N := (some 88)) (v := ?_) (a' := ?_) #[true, true, false, false, false, false, false, false, false, false, false, false, false, false, false, false, false, false, false, false, false, false] rfl rfl (any_of HT_.out (by kernel_rfl)) (fun _ _ _ h => h) (Or.inl ⟨by rfl, ?_⟩) ?_ ?_
      rotate_left
      · intro w'
        go_simp
        with_reducible rfl
      rotate_left
      · simp only [Act.put, List.setIfInBounds_toArray, List.set_cons_zero, List.set_cons_succ, i64_w, i32_w]
        rfl
      refine take_ (i := 2) (N := (some 89)) (v := ?_) (a' := ?_) #[true, true, true, false, false, false, false, false, false, false, false, false, false, false, false, false, false, false, false, false, false, false] rfl rfl (take_ofW HT_.out HW_.out (by kernel_rfl)) (fun _ _ _ h => h) (Or.inl ⟨by rfl, ?_⟩) hHeld ?_ ?_
      rotate_left
      · rintro w' ⟨s0, s1, s2⟩
        go_simp
        with_reducible rfl
      rotate_left
      · simp only [Act.put, List.setIfInBounds_toArray, List.set_cons_zero, List.set_cons_succ, i64_w, i32_w]
        rfl
      refine pure_ (i := 3) (N := (some 90)) (v := ?_) (a' := ?_) #[true, true, true, true, false, false, false, false, false, false, false, false, false, false, false, false, false, false, false, false, false, false] rfl rfl (any_of HT_.out (by kernel_rfl)) (fun _ _ _ h => h) (Or.inl ⟨by rfl, ?_⟩) ?_ ?_
      rotate_left
      · intro w'
        go_simp
        with_reducible rfl
      rotate_left
      · simp only [Act.put, List.setIfInBounds_toArray, List.set_cons_zero, List.set_cons_succ, i64_w, i32_w]
        rfl
      refine pure_ (i := 4) (N := (some 91)) (v := ?_) (a' := ?_) #[true, true, true, true, true, false, false, false, false, false, false, false, false, false, false, false, false, false, false, false, false, false] rfl rfl (any_of HT_.out (by kernel_rfl)) (fun _ _ _ h => h) (Or.inl ⟨by rfl, ?_⟩) ?_ ?_
      rotate_left
      · intro w'
        go_simp
        with_reducible rfl
      rotate_left
      · simp only [Act.put, List.setIfInBounds_toArray, List.set_cons_zero, List.set_cons_succ, i64_w, i32_w]
        rfl
      refine take_ (i := 5) (N := (some 92)) (v := ?_) (a' := ?_) #[true, true, true, true, true, true, false, false, false, false, false, false, false, false, false, false, false, false, false, false, false, false] rfl rfl (take_ofW HT_.out HW_.out (by kernel_rfl)) (fun _ _ _ h => h) (Or.inl ⟨by rfl, ?_⟩) hHeld ?_ ?_
      rotate_left
      · rintro w' ⟨s0, s1, s2⟩
        go_simp
        with_reducible rfl
      rotate_left
      · simp only [Act.put, List.setIfInBounds_toArray, List.set_cons_zero, List.set_cons_succ, i64_w, i32_w]
        rfl
      refine pure_ (i := 6) (N := (some 93)) (v := ?_) (a' := ?_) #[true, true, true, true, true, true, true, false, false, false, false, false, false, false, false, false, false, false, false, false, false, false] rfl rfl (any_of HT_.out (by kernel_rfl)) (fun _ _ _ h => h) (Or.inl ⟨by rfl, ?_⟩) ?_ ?_
      rotate_left
      · intro w'
        go_simp
        with_reducible rfl
      rotate_left
      · simp only [Act.put, List.setIfInBounds_toArray, List.set_cons_zero, List.set_cons_succ, i64_w, i32_w]
        rfl
      refine pure_ (i := 7) (N := (some 94)) (v := ?_) (a' := ?_) #[true, true, true, true, true, true, true, true, false, false, false, false, false, false, false, false, false, false, false, false, false, false] rfl rfl (any_of HT_.out (by kernel_rfl)) (fun _ _ _ h => h) (Or.inl ⟨by rfl, ?_⟩) ?_ ?_
      rotate_left
      · intro w'
        go_simp
        with_reducible rfl
      rotate_left
      · simp only [Act.put, List.setIfInBounds_toArray, List.set_cons_zero, List.set_cons_succ, i64_w, i32_w]
        rfl
      refine take_ (i := 8) (N := (some 95)) (v := ?_) (a' := ?_) #[true, true, true, true, true, true, true, true, true, false, false, false, false, false, false, false, false, false, false, false, false, false] rfl rfl (take_ofW HT_.out HW_.out (by kernel_rfl)) (fun _ _ _ h => h) (Or.inl ⟨by rfl, ?_⟩) hHeld ?_ ?_
      rotate_left
      · rintro w' ⟨s0, s1, s2⟩
        go_simp
        with_reducible rfl
      rotate_left
      · simp only [Act.put, List.setIfInBounds_toArray, List.set_cons_zero, List.set_cons_succ, i64_w, i32_w]
        rfl
      refine pure_ (i := 9) (N := (some 96)) (v := ?_) (a' := ?_) #[true, true, true, true, true, true, true, true, true, true, false, false, false, false, false, false, false, false, false, false, false, false] rfl rfl (any_of HT_.out (by kernel_rfl)) (fun _ _ _ h => h) (Or.inl ⟨by rfl, ?_⟩) ?_ ?_
      rotate_left
      · intro w'
        go_simp
        with_reducible rfl
      rotate_left
      · simp only [Act.put, List.setIfInBounds_toArray, List.set_cons_zero, List.set_cons_succ, i64_w, i32_w]
        rfl
      refine pure_ (i := 10) (N := (some 97)) (v := ?_) (a' := ?_) #[true, true, true, true, true, true, true, true, true, true, true, false, false, false, false, false, false, false, false, false, false, false] rfl rfl (any_of HT_.out (by kernel_rfl)) (fun _ _ _ h => h) (Or.inl ⟨by rfl, ?_⟩) ?_ ?_
      rotate_left
      · intro w'
        go_simp
        with_reducible rfl
      rotate_left
      · simp only [Act.put, List.setIfInBounds_toArray, List.set_cons_zero, List.set_cons_succ, i64_w, i32_w]
        rfl
      refine pure_ (i := 11) (N := (some 98)) (v := ?_) (a' := ?_) #[true, true, true, true, true, true, true, true, true, true, true, true, false, false, false, false, false, false, false, false, false, false] rfl rfl (any_of HT_.out (by kernel_rfl)) (fun _ _ _ h => h) (Or.inl ⟨by rfl, ?_⟩) ?_ ?_
      rotate_left
      · intro w'
        go_simp
        with_reducible rfl
      rotate_left
      · simp only [Act.put, List.setIfInBounds_toArray, List.set_cons_zero, List.set_cons_succ, i64_w, i32_w]
        rfl
      refine take_ (i := 12) (N := (some 99)) (v := ?_) (a' := ?_) #[true, true, true, true, true, true, true, true, true, true, true, true, true, false, false, false, false, false, false, false, false, false] rfl rfl (take_ofW HT_.out HW_.out (by kernel_rfl)) (fun _ _ _ h => h) (Or.inl ⟨by rfl, ?_⟩) hHeld ?_ ?_
      rotate_left
      · rintro w' ⟨s0, s1, s2⟩
        go_simp
        with_reducible rfl
      rotate_left
      · simp only [Act.put, List.setIfInBounds_toArray, List.set_cons_zero, List.set_cons_succ, i64_w, i32_w]
        rfl
      refine pure_ (i := 13) (N := (some 100)) (v := ?_) (a' := ?_) #[true, true, true, true, true, true, true, true, true, true, true, true, true, true, false, false, false, false, false, false, false, false] rfl rfl (any_of HT_.out (by kernel_rfl)) (fun _ _ _ h => h) (Or.inl ⟨by rfl, ?_⟩) ?_ ?_
      rotate_left
      · intro w'
        go_simp
        with_reducible rfl
      rotate_left
      · simp only [Act.put, List.setIfInBounds_toArray, List.set_cons_zero, List.set_cons_succ, i64_w, i32_w]
        rfl
      refine pure_ (i := 14) (N := (some 101)) (v := ?_) (a' := ?_) #[true, true, true, true, true, true, true, true, true, true, true, true, true, true, true, false, false, false, false, false, false, false] rfl rfl (any_of HT_.out (by kernel_rfl)) (fun _ _ _ h => h) (Or.inl ⟨by rfl, ?_⟩) ?_ ?_
      rotate_left
      · intro w'
        go_simp
        with_reducible rfl
      rotate_left
      · simp only [Act.put, List.setIfInBounds_toArray, List.set_cons_zero, List.set_cons_succ, i64_w, i32_w]
        rfl
      refine take_ (i := 15) (N := (some 102)) (v := ?_) (a' := ?_) #[true, true, true, true, true, true, true, true, true, true, true, true, true, true, true, true, false, false, false, false, false, false] rfl rfl (take_ofW HT_.out HW_.out (by kernel_rfl)) (fun _ _ _ h => h) (Or.inl ⟨by rfl, ?_⟩) hHeld ?_ ?_
      rotate_left
      · rintro w' ⟨s0, s1, s2⟩
        go_simp
        with_reducible rfl
      rotate_left
      · simp only [Act.put, List.setIfInBounds_toArray, List.set_cons_zero, List.set_cons_succ, i64_w, i32_w]
        rfl
      refine pure_ (i := 16) (N := (some 103)) (v := ?_) (a' := ?_) #[true, true, true, true, true, true, true, true, true, true, true, true, true, true, true, true, true, false, false, false, false, false] rfl rfl (any_of HT_.out (by kernel_rfl)) (fun _ _ _ h => h) (Or.inl ⟨by rfl, ?_⟩) ?_ ?_
      rotate_left
      · intro w'
        go_simp
        with_reducible rfl
      rotate_left
      · simp only [Act.put, List.setIfInBounds_toArray, List.set_cons_zero, List.set_cons_succ, i64_w, i32_w]
        rfl
      refine pure_ (i := 17) (N := (some 104)) (v := ?_) (a' := ?_) #[true, true, true, true, true, true, true, true, true, true, true, true, true, true, true, true, true, true, false, false, false, false] rfl rfl (any_of HT_.out (by kernel_rfl)) (fun _ _ _ h => h) (Or.inl ⟨by rfl, ?_⟩) ?_ ?_
      rotate_left
      · intro w'
        go_simp
        with_reducible rfl
      rotate_left
      · simp only [Act.put, List.setIfInBounds_toArray, List.set_cons_zero, List.set_cons_succ, i64_w, i32_w]
        rfl
      refine take_ (i := 18) (N := (some 105)) (v := ?_) (a' := ?_) #[true, true, true, true, true, true, true, true, true, true, true, true, true, true, true, true, true, true, true, false, false, false] rfl rfl (take_ofW HT_.out HW_.out (by kernel_rfl)) (fun _ _ _ h => h) (Or.inl ⟨by rfl, ?_⟩) hHeld ?_ ?_
      rotate_left
      · rintro w' ⟨s0, s1, s2⟩
        go_simp
        with_reducible rfl
      rotate_left
      · simp only [Act.put, List.setIfInBounds_toArray, List.set_cons_zero, List.set_cons_succ, i64_w, i32_w]
        rfl
      refine pure_ (i := 19) (N := (some 106)) (v := ?_) (a' := ?_) #[true, true, true, true, true, true, true, true, true, true, true, true, true, true, true, true, true, true, true, true, false, false] rfl rfl (any_of HT_.out (by kernel_rfl)) (fun _ _ _ h => h) (Or.inl ⟨by rfl, ?_⟩) ?_ ?_
      rotate_left
      · intro w'
        go_simp
        with_reducible rfl
      rotate_left
      · simp only [Act.put, List.setIfInBounds_toArray, List.set_cons_zero, List.set_cons_succ, i64_w, i32_w]
        rfl
      refine pure_ (i := 20) (N := (some 15)) (v := ?_) (a' := ?_) #[true, true, true, true, true, true, true, true, true, true, true, true, true, true, true, true, true, true, true, true, true, false] rfl rfl (any_of HT_.out (by kernel_rfl)) (fun _ _ _ h => h) (Or.inl ⟨by rfl, ?_⟩) ?_ ?_
      rotate_left
      · intro w'
        go_simp
        with_reducible rfl
      rotate_left
      · simp only [Act.put, List.setIfInBounds_toArray, List.set_cons_zero, List.set_cons_succ, i64_w, i32_w]
        rfl
      refine pure_ (i := 21) (N := (some 16)) (v := ?_) (a' := ?_) #[true, true, true, true, true, true, true, true, true, true, true, true, true, true, true, true, true, true, true, true, true, true] rfl rfl (any_of HT_.out (by kernel_rfl)) (fun _ _ _ h => h) (Or.inl ⟨by rfl, ?_⟩) ?_ ?_
      rotate_left
      · intro w'
        go_simp
        with_reducible rfl
      rotate_left
      · simp only [Act.put, List.setIfInBounds_toArray, List.set_cons_zero, List.set_cons_succ, i64_w, i32_w]
        rfl
      refine done_ (done_of HT_.out (by kernel_rfl)) ?_
      clear HT_ HW_
      generalize hlo : (if y2 < if y1 < y0 then y1 else y0 then y2 else if y1 < y0 then y1 else y0) = lo
      generalize hhi : (if (if y0 < y1 then y1 else y0) < y2 then y2 else if y0 < y1 then y1 else y0) = hi
      obtain ⟨mid, hmid⟩ : ∃ m, y0 + y1 + y2 - lo - hi = m := ⟨_, rfl⟩
      have hord : 0 ≤ lo ∧ lo ≤ mid ∧ mid ≤ hi ∧ hi ≤ 1099511627776 := by
        have := Z0.out
        have := Z1.out
        have := Z2.out
        rw [← hmid, ← hlo, ← hhi]
        clear hlo hhi hmid
        refine ⟨?_, ?_, ?_, ?_⟩ <;> (repeat' split) <;> omega
      have hw : wrap64 (wrap64 (wrap64 (wrap64 (y0 + y1) + y2) - lo) - hi) = mid := by
        have := Z0.out
        have := Z1.out
        have := Z2.out
        clear hlo hhi
        obtain ⟨o1, o2, o3, o4⟩ := hord
        rw [w64 (x := y0 + y1) ⟨by omega, by omega⟩, w64 (x := y0 + y1 + y2) ⟨by omega, by omega⟩, w64 (x := y0 + y1 + y2 - lo) ⟨by omega, by omega⟩, w64 (x := y0 + y1 + y2 - lo - hi) ⟨by omega, by omega⟩, hmid]
      have HO := hd hord
      have HW := hd hw
      clear hlo hhi hmid hord hw
      go_wp2_with fail
      replace HX : Hd (w6.drew.heap[g]? = _) := hd HX.out
      replace HS := hd (HS.out.drewN 1)
      replace HS : Hd (St w6.drew _ _ _ _ _) := HS
      replace HB : Hd (Below w.heap.size w w6.drew) := hd (below_drew1 HB.out)
      refine start_ (n := 16) (S := fun w' => w'.cell? ⟨g, 0, none⟩ = some (.int .i64 y0) ∧ w'.cell? ⟨g, 1, none⟩ = some (.int .i64 y1) ∧ w'.cell? ⟨g, 2, none⟩ = some (.int .i64 y2)) (ds := []) #[false, false, false, false, false, false, false, false, false, false, false, false, false, false, false, false] (by kernel_rfl) rfl rfl ⟨(blk_cell HX.out 0).trans rfl, (blk_cell HX.out 1).trans rfl, (blk_cell HX.out 2).trans rfl⟩ (fun hHeld => ?_)
      refine with_tabW parts.tab12 parts.bits12 (fun HT_ HW_ => ?_)
      generalize w6.drew = w7 at HX HS HB hHeld ⊢
      refine pure_ (i := 0) (N := (some 107)) (v := ?_) (a' := ?_) #[true, false, false, false, false, false, false, false, false, false, false, false, false, false, false, false] rfl rfl (any_of HT_.out (by kernel_rfl)) (fun _ _ _ h => h) (Or.inl ⟨by rfl, ?_⟩) ?_ ?_
      rotate_left
      · intro w'
        go_simp
        with_reducible rfl
      rotate_left
      · simp only [Act.put, List.setIfInBounds_toArray, List.set_cons_zero, List.set_cons_succ, i64_w, i32_w]
        rfl
      refine pure_ (i := 1) (N := (some 108)) (v := ?_) (a' := ?_) #[true, true, false, false, false, false, false, false, false, false, false, false, false, false, false, false] rfl rfl (any_of HT_.out (by kernel_rfl)) (fun _ _ _ h => h) (Or.inl ⟨by rfl, ?_⟩) ?_ ?_
      rotate_left
      · intro w'
        go_simp
        with_reducible rfl
      rotate_left
      · simp only [Act.put, List.setIfInBounds_toArray, List.set_cons_zero, List.set_cons_succ, i64_w, i32_w]
        rfl
      refine take_ (i := 2) (N := (some 109)) (v := ?_) (a' := ?_) #[true, true, true, false, false, false, false, false, false, false, false, false, false, false, false, false] rfl rfl (take_ofW HT_.out HW_.out (by kernel_rfl)) (fun _ _ _ h => h) (Or.inl ⟨by rfl, ?_⟩) hHeld ?_ ?_
      rotate_left
      · rintro w' ⟨s0, s1, s2⟩
        go_simp
        with_reducible rfl
      rotate_left
      · simp only [Act.put, List.setIfInBounds_toArray, List.set_cons_zero, List.set_cons_succ, i64_w, i32_w]
        rfl
      refine pure_ (i := 3) (N := (some 110)) (v := ?_) (a' := ?_) #[true, true, true, true, false, false, false, false, false, false, false, false, false, false, false, false] rfl rfl (any_of HT_.out (by kernel_rfl)) (fun _ _ _ h => h) (Or.inl ⟨by rfl, ?_⟩) ?_ ?_
      rotate_left
      · intro w'
        go_simp
        with_reducible rfl
      rotate_left
      · simp only [Act.put, List.setIfInBounds_toArray, List.set_cons_zero, List.set_cons_succ, i64_w, i32_w]
        rfl
      refine pure_ (i := 4) (N := (some 111)) (v := ?_) (a' := ?_) #[true, true, true, true, true, false, false, false, false, false, false, false, false, false, false, false] rfl rfl (any_of HT_.out (by kernel_rfl)) (fun _ _ _ h => h) (Or.inl ⟨by rfl, ?_⟩) ?_ ?_
      rotate_left
      · intro w'
        go_simp
        with_reducible rfl
      rotate_left
      · simp only [Act.put, List.setIfInBounds_toArray, List.set_cons_zero, List.set_cons_succ, i64_w, i32_w]
        rfl
      refine take_ (i := 5) (N := (some 112)) (v := ?_) (a' := ?_) #[true, true, true, true, true, true, false, false, false, false, false, false, false, false, false, false] rfl rfl (take_ofW HT_.out HW_.out (by kernel_rfl)) (fun _ _ _ h => h) (Or.inl ⟨by rfl, ?_⟩) hHeld ?_ ?_
      rotate_left
      · rintro w' ⟨s0, s1, s2⟩
        go_simp
        with_reducible rfl
      rotate_left
      · simp only [Act.put, List.setIfInBounds_toArray, List.set_cons_zero, List.set_cons_succ, i64_w, i32_w]
        rfl
      refine pure_ (i := 6) (N := (some 113)) (v := ?_) (a' := ?_) #[true, true, true, true, true, true, true, false, false, false, false, false, false, false, false, false] rfl rfl (any_of HT_.out (by kernel_rfl)) (fun _ _ _ h => h) (Or.inl ⟨by rfl, ?_⟩) ?_ ?_
      rotate_left
      · intro w'
        go_simp
        with_reducible rfl
      rotate_left
      · simp only [Act.put, List.setIfInBounds_toArray, List.set_cons_zero, List.set_cons_succ, i64_w, i32_w]
        rfl
      refine pure_ (i := 7) (N := (some 114)) (v := ?_) (a' := ?_) #[true, true, true, true, true, true, true, true, false, false, false, false, false, false, false, false] rfl rfl (any_of HT_.out (by kernel_rfl)) (fun _ _ _ h => h) (Or.inl ⟨by rfl, ?_⟩) ?_ ?_
      rotate_left
      · intro w'
        go_simp
        with_reducible rfl
      rotate_left
      · simp only [Act.put, List.setIfInBounds_toArray, List.set_cons_zero, List.set_cons_succ, i64_w, i32_w]
        rfl
      refine pure_ (i := 8) (N := (some 115)) (v := ?_) (a' := ?_) #[true, true, true, true, true, true, true, true, true, false, false, false, false, false, false, false] rfl rfl (any_of HT_.out (by kernel_rfl)) (fun _ _ _ h => h) (Or.inl ⟨by rfl, ?_⟩) ?_ ?_
      rotate_left
      · intro w'
        go_simp
        with_reducible rfl
      rotate_left
      · simp only [Act.put, List.setIfInBounds_toArray, List.set_cons_zero, List.set_cons_succ, i64_w, i32_w]
        rfl
      refine take_ (i := 9) (N := (some 116)) (v := ?_) (a' := ?_) #[true, true, true, true, true, true, true, true, true, true, false, false, false, false, false, false] rfl rfl (take_ofW HT_.out HW_.out (by kernel_rfl)) (fun _ _ _ h => h) (Or.inl ⟨by rfl, ?_⟩) hHeld ?_ ?_
      rotate_left
      · rintro w' ⟨s0, s1, s2⟩
        go_simp
        with_reducible rfl
      rotate_left
      · simp only [Act.put, List.setIfInBounds_toArray, List.set_cons_zero, List.set_cons_succ, i64_w, i32_w]
        rfl
      refine pure_ (i := 10) (N := (some 117)) (v := ?_) (a' := ?_) #[true, true, true, true, true, true, true, true, true, true, true, false, false, false, false, false] rfl rfl (any_of HT_.out (by kernel_rfl)) (fun _ _ _ h => h) (Or.inl ⟨by rfl, ?_⟩) ?_ ?_
      rotate_left
      · intro w'
        go_simp
        with_reducible rfl
      rotate_left
      · simp only [Act.put, List.setIfInBounds_toArray, List.set_cons_zero, List.set_cons_succ, i64_w, i32_w]
        rfl
      refine pure_ (i := 11) (N := (some 118)) (v := ?_) (a' := ?_) #[true, true, true, true, true, true, true, true, true, true, true, true, false, false, false, false] rfl rfl (any_of HT_.out (by kernel_rfl)) (fun _ _ _ h => h) (Or.inl ⟨by rfl, ?_⟩) ?_ ?_
      rotate_left
      · intro w'
        go_simp
        with_reducible rfl
      rotate_left
      · simp only [Act.put, List.setIfInBounds_toArray, List.set_cons_zero, List.set_cons_succ, i64_w, i32_w]
        rfl
      refine pure_ (i := 12) (N := (some 119)) (v := ?_) (a' := ?_) #[true, true, true, true, true, true, true, true, true, true, true, true, true, false, false, false] rfl rfl (any_of HT_.out (by kernel_rfl)) (fun _ _ _ h => h) (Or.inl ⟨by rfl, ?_⟩) ?_ ?_
      rotate_left
      · intro w'
        go_simp
        with_reducible rfl
      rotate_left
      · simp only [Act.put, List.setIfInBounds_toArray, List.set_cons_zero, List.set_cons_succ, i64_w, i32_w]
        rfl
      refine pure_ (i := 13) (N := (some 120)) (v := ?_) (a' := ?_) #[true, true, true, true, true, true, true, true, true, true, true, true, true, true, false, false] rfl rfl (any_of HT_.out (by kernel_rfl)) (fun _ _ _ h => h) (Or.inl ⟨by rfl, ?_⟩) ?_ ?_
      rotate_left
      · intro w'
        go_simp
        with_reducible rfl
      rotate_left
      · simp only [Act.put, List.setIfInBounds_toArray, List.set_cons_zero, List.set_cons_succ, i64_w, i32_w]
        rfl
      refine pure_ (i := 14) (N := (some 121)) (v := ?_) (a' := ?_) #[true, true, true, true, true, true, true, true, true, true, true, true, true, true, true, false] rfl rfl (any_of HT_.out (by kernel_rfl)) (fun _ _ _ h => h) (Or.inl ⟨by rfl, ?_⟩) ?_ ?_
      rotate_left
      · intro w'
        go_simp
        with_reducible rfl
      rotate_left
      · simp only [Act.put, List.setIfInBounds_toArray, List.set_cons_zero, List.set_cons_succ, i64_w, i32_w]
        rfl
      refine pure_ (i := 15) (N := (some 17)) (v := ?_) (a' := ?_) #[true, true, true, true, true, true, true, true, true, true, true, true, true, true, true, true] rfl rfl (any_of HT_.out (by kernel_rfl)) (fun _ _ _ h => h) (Or.inl ⟨by rfl, ?_⟩) ?_ ?_
      rotate_left
      · intro w'
        go_simp
        with_reducible rfl
      rotate_left
      · simp only [Act.put, List.setIfInBounds_toArray, List.set_cons_zero, List.set_cons_succ, i64_w, i32_w]
        rfl
      refine done_ (done_of HT_.out (by kernel_rfl)) ?_
      clear HT_ HW_
      rw [HW.out]
      clear HW HX Z0 Z1 Z2
      have k1 : wrongP lo mid = 0 := by unfold wrongP; rw [if_neg (by have := HO.out; omega)]
      have k2 : wrongP mid hi = 0 := by unfold wrongP; rw [if_neg (by have := HO.out; omega)]
      have k3 : wrongP lo hi = 0 := by unfold wrongP; rw [if_neg (by have := HO.out; omega)]
      have K1 := hd k1
      have K2 := hd k2
      have K3 := hd k3
      clear k1 k2 k3
      go_wp2_with fail
      refine (used_st HS.out hids4 5000 _ lo mid _ _ (total_sum _ _ _ lo mid hids4)).mono ?_
      rintro e w8 ⟨rfl, b⟩
      obtain ⟨t1, o1, ht1⟩ : ∃ a b, totalP P (idsP P) ⟨#[]⟩ lo mid = (a, b) := ⟨_, _, rfl⟩
      have hu1 : usedR (totalP P (idsP P) ⟨#[]⟩ lo mid).1 (totalP P (idsP P) ⟨#[]⟩ lo mid).2 lo mid = .tuple #[.int .i64 t1, .bool o1, .int .i64 0] := by rw [ht1]; unfold usedR; rw [if_pos K1.out]
      rw [hu1]
      have HT1 := hd ht1
      clear hu1 ht1
      have HB_ : Hd (Below w.heap.size w w8) := hd (below_then HB.out HB.out.size b)
      have HS_ := hd (HS.out.below b)
      clear b HB HS
      have HB := HB_
      have HS := HS_
      clear HB_ HS_
      go_wp2_with fail
      refine (used_st HS.out hids4 5000 _ mid hi _ _ (total_sum _ _ _ mid hi hids4)).mono ?_
      rintro e w9 ⟨rfl, b⟩
      obtain ⟨t2, o2, ht2⟩ : ∃ a b, totalP P (idsP P) ⟨#[]⟩ mid hi = (a, b) := ⟨_, _, rfl⟩
      have hu2 : usedR (totalP P (idsP P) ⟨#[]⟩ mid hi).1 (totalP P (idsP P) ⟨#[]⟩ mid hi).2 mid hi = .tuple #[.int .i64 t2, .bool o2, .int .i64 0] := by rw [ht2]; unfold usedR; rw [if_pos K2.out]
      rw [hu2]
      have HT2 := hd ht2
      clear hu2 ht2
      have HB_ : Hd (Below w.heap.size w w9) := hd (below_then HB.out HB.out.size b)
      have HS_ := hd (HS.out.below b)
      clear b HB HS
      have HB := HB_
      have HS := HS_
      clear HB_ HS_
      go_wp2_with fail
      refine (used_st HS.out hids4 5000 _ lo hi _ _ (total_sum _ _ _ lo hi hids4)).mono ?_
      rintro e w10 ⟨rfl, b⟩
      obtain ⟨t3, o3, ht3⟩ : ∃ a b, totalP P (idsP P) ⟨#[]⟩ lo hi = (a, b) := ⟨_, _, rfl⟩
      have hu3 : usedR (totalP P (idsP P) ⟨#[]⟩ lo hi).1 (totalP P (idsP P) ⟨#[]⟩ lo hi).2 lo hi = .tuple #[.int .i64 t3, .bool o3, .int .i64 0] := by rw [ht3]; unfold usedR; rw [if_pos K3.out]
      rw [hu3]
      have HT3 := hd ht3
      clear hu3 ht3
      have HB_ : Hd (Below w.heap.size w w10) := hd (below_then HB.out HB.out.size b)
      have HS_ := hd (HS.out.below b)
      clear b HB HS
      have HB := HB_
      have HS := HS_
      clear HB_ HS_
      go_upto_region 18 with (fail)
      go_cut [168] from 152 to 168 (fun v wc => v = .bool false ∧ Hd (St wc w.heap.size (fun k => okS k ∧ k < g) s P (idsP P)) ∧ Hd (Below w.heap.size w wc))
      case first =>
        cases o1 with
        | true =>
          go_wp2
          go_meet
          case rel => exact ⟨rfl, HS, HB⟩
        | false =>
          cases o2 with
          | true =>
            go_wp2
            go_meet
            case rel => exact ⟨rfl, HS, HB⟩
          | false =>
            cases o3 with
            | true =>
              go_wp2
              go_meet
              case rel => exact ⟨rfl, HS, HB⟩
            | false =>
              have hx : wrap64 (t1 + t2) = t3 := by
                have h_ := parts_time HK.out.ok ⟨#[]⟩ HO.out.1 HO.out.2.1 HO.out.2.2.1 (by have := HO.out.2.2.2; omega) (idsP P) (by rw [HT1.out]) (by rw [HT2.out]) (by rw [HT3.out])
                rw [HT1.out, HT2.out, HT3.out] at h_
                exact h_
              go_wp2
              go_meet
              case rel => exact ⟨rfl, HS, HB⟩
      case rest =>
        clear HS HB
        obtain ⟨rfl, HS, HB⟩ := hcut
        go_wp2_with fail
        refine (musterlow_Pick.calls day 12000000 (pickN day 12000000) wc (pick_is day 12000000 (by omega))).mono ?_
        rintro e w_ ⟨rfl, nd, rfl⟩
        have hd_ := pick_lt day 12000000 (by omega) (by omega)
        obtain ⟨d, hde⟩ : ∃ d, pickN day 12000000 = d := ⟨_, rfl⟩
        rw [hde] at hd_ ⊢
        clear hde
        replace HS := hd (HS.out.drewN nd)
        replace HB : Hd (Below w.heap.size w (wc.drewN nd)) := hd (pw_below_drewN HB.out nd)
        generalize wc.drewN nd = w11 at HS HB ⊢
        obtain ⟨dt, dm, hg, hn, hp1, hp2, hgl, hday⟩ := parts_day HK.out.ok ⟨#[]⟩ (idsP P) d hd_.1 hd_.2
        obtain ⟨fr, hfr⟩ : ∃ f, 86400 * d = f := ⟨_, rfl⟩
        rw [hfr] at hp1 hp2
        have hw1 : wrap64 (d * 86400) = fr := by rw [w64 ⟨by omega, by omega⟩]; omega
        have hw2 : wrap64 (fr + 86400) = fr + 86400 := w64 ⟨by omega, by omega⟩
        have HW1 := hd hw1
        have HW2 := hd hw2
        have HP1 := hd hp1
        have HP2 := hd hp2
        have HGL := hd hgl
        have HDAY := hd hday
        clear hfr hd_ hp1 hp2 hgl hday
        go_wp2_with fail
        simp only [hw1, hw2]
        clear hw1
        refine (days_st HS.out hids4 _ fr (fr + 86400)).mono ?_
        rintro e w12 ⟨vd, rfl, hR, b⟩
        rw [HP1.out] at hR ⊢
        obtain ⟨Ad, cd, rfl, hcd, hCd⟩ := Kd.R_reads hR
        replace HB : Hd (Below w.heap.size w w12) := hd (below_then HB.out HB.out.size b)
        replace HS := hd (HS.out.below b)
        have HD := hd hCd
        clear hR b hCd
        go_wp2_with fail
        clear hw2
        refine (hours_st HS.out hids4 _ fr (fr + 86400)).mono ?_
        rintro e w13 ⟨vh, rfl, hR, b⟩
        rw [HP2.out] at hR ⊢
        obtain ⟨Ah, ch, rfl, hch, hCh⟩ := Kd.R_reads hR
        replace HB : Hd (Below w.heap.size w w13) := hd (below_then HB.out HB.out.size b)
        replace HS := hd (HS.out.below b)
        replace HD := hd (Kd.C_below HD.out b)
        have HH := hd hCh
        clear hR b hCh
        have hsi : ∀ x ∈ hg, i64 x := by
          have h_ := roll_i64 P (idsP P) ⟨#[]⟩ fr (fr + 86400) 3600
          rw [HP2.out] at h_
          exact h_
        have HSI := hd hsi
        obtain ⟨sm, so, hsm⟩ : ∃ a b, sumP 0 hg = (a, b) := ⟨_, _, rfl⟩
        have HSM := hd hsm
        clear hsi hsm
        go_wp2_with fail
        refine (account_Sum.calls 100 Ah ch hg sm so w13 HH.out hch (by rw [sum_spec hg (by have := HGL.out; omega) HSI.out 100 (by have := HGL.out; omega), HSM.out])).mono ?_
        rintro e w14 ⟨rfl, b⟩
        replace HB : Hd (Below w.heap.size w w14) := hd (below_then HB.out HB.out.size b)
        replace HS := hd (HS.out.below b)
        replace HD := hd (Kd.C_below HD.out b)
        clear b HH
        go_upto_region 24 with (fail)
        go_cut [227] from 195 to 227 (fun v wc => v = .bool false ∧ Hd (St wc w.heap.size (fun k => okS k ∧ k < g) s P (idsP P)) ∧ Hd (Below w.heap.size w wc))
        case first =>
          have hgl := HGL.out
          have hgl' : (hg.length : Int) = 24 := by omega
          clear hgl
          obtain ⟨ad, rfl, hx⟩ := Kd.at_int HD.out (0 : Int) (by omega) (by simp)
          have hx' : w14.cell? ad = some (.int .i64 dt) := by rw [show Int.toNat 0 = 0 from rfl, add_zz] at hx; exact hx
          clear hx
          cases dm with
          | true =>
            go_wp2
            go_meet
            case rel => exact ⟨rfl, HS, HB⟩
          | false =>
            cases hn with
            | true =>
              go_wp2
              go_meet
              case rel => exact ⟨rfl, HS, HB⟩
            | false =>
              cases so with
              | true =>
                go_wp2
                go_meet
                case rel => exact ⟨rfl, HS, HB⟩
              | false =>
                have he : sm = dt := by
                  have h_ := HDAY.out rfl rfl (by rw [HSM.out])
                  rw [HSM.out] at h_
                  exact h_
                subst he
                go_wp2
                go_meet
                case rel => exact ⟨rfl, HS, HB⟩
        case rest =>
          clear HS HB
          obtain ⟨rfl, HS, HB⟩ := hcut
          clear HD HSM HSI HGL HDAY HP1 HP2 HW1 HW2 hch hcd HT1 HT2
          obtain ⟨ra, hra⟩ : ∃ r, runsL P (⟨#[]⟩ : ByteArray) (idsP P) = r := ⟨_, rfl⟩
          have hrl : ra.length ≤ 4096 := by have h_ := runsL_len P ⟨#[]⟩ (idsP P); rw [hra] at h_; omega
          have HRA := hd hra
          clear hra
          have HO2 : Hd (0 ≤ lo ∧ lo ≤ 2199023255552 ∧ 0 ≤ hi ∧ hi ≤ 2199023255552) := hd (by have := HO.out; omega)
          go_wp2_with fail
          refine (runs_st HS.out hids4 _).mono ?_
          rintro e wk ⟨va, rfl, hR, b⟩
          obtain ⟨Aa, ca, rfl, hca, hCa⟩ := Kd.R_reads hR
          rw [HRA.out] at hca hCa ⊢
          have HB2 : Hd (Below w.heap.size w wk) := hd (below_then HB.out HB.out.size b)
          have HS2 := hd (HS.out.below b)
          have HC := hd hCa
          clear hR b hCa HB HS
          obtain ⟨l_, hl_⟩ : ∃ l, accsOf ra = l := ⟨_, rfl⟩
          have hll : l_.length = ra.length := by rw [← hl_, accs_len]
          have HL_ := hd hl_
          clear hl_
          go_wp2
          go_loopw [36, 38] (fun ev rv wr => ∃ r : Nat, r ≤ ra.length ∧ rv = .int .i64 (r : Int) ∧ Hd (ByteArray.empty ∉ l_.take r) ∧ Hd (Kd.R (Kd.int .i64) 2 wr wk.heap.size (fun _ => True) ev (eachL P (idsP P) lo hi l_ r)) ∧ Hd (Below wk.heap.size wk wr)) (fun _ rv _ => ra.length - (intOf rv).toNat)
          case atStart => exact ⟨0, by omega, rfl, hd (by simp), hd (Kd.R_nil _ _ _ _ _), hd (Below.refl _ _)⟩
          case round =>
            obtain ⟨r, hr, rfl, HE, HL, HBK⟩ := hrel
            by_cases hlt : r < ra.length
            · have hr' : (r : Int) < (ra.length : Int) := by omega
              obtain ⟨ar, har⟩ : ∃ a, l_.getD r ByteArray.empty = a := ⟨_, rfl⟩
              have HAR := hd har
              clear har
              go_wp2
              go_loopw [39, 40] (fun fv tv wq => ∃ t : Nat, t ≤ r ∧ tv = .int .i64 (t : Int) ∧ fv = .bool (!hasB (l_.take t) ar) ∧ Hd (Kd.R (Kd.int .i64) 2 wq wk.heap.size (fun _ => True) u36 (eachL P (idsP P) lo hi l_ r)) ∧ Hd (Below wk.heap.size wk wq)) (fun _ tv _ => r - (intOf tv).toNat)
              case atStart => exact ⟨0, by omega, rfl, by simp [hasB], HL, HBK⟩
              case round =>
                clear HL HBK
                obtain ⟨t, ht, rfl, rfl, HL, HBK⟩ := hrel
                by_cases htr : t < r
                · have ht' : (t : Int) < (r : Int) := by omega
                  have htl : t < ra.length := by omega
                  obtain ⟨adr, e, -, hct, -⟩ := at_T56 (Kd.C_below HC.out HBK.out) (t : Int) (by omega) (by omega)
                  obtain ⟨adr', e', -, hcr, -⟩ := at_T56 (Kd.C_below HC.out HBK.out) (r : Int) (by omega) (by omega)
                  subst e
                  cases e'
                  rw [accs_get ra t (by omega), HL_.out, Int.toNat_natCast] at hct
                  rw [accs_get ra r (by omega), HL_.out, HAR.out, Int.toNat_natCast] at hcr
                  obtain ⟨at_, hat⟩ : ∃ a, l_.getD t ByteArray.empty = a := ⟨_, rfl⟩
                  rw [hat] at hct
                  have HAT := hd hat
                  clear hat
                  go_wp2_with fail
                  replace hct : wr.drew.cell? ⟨(adr.add (t * 9)).block, (adr.add (t * 9)).off + 1, none⟩ = some (.string at_) := hct
                  replace hcr : wr.drew.cell? ⟨(adr.add (r * 9)).block, (adr.add (r * 9)).off + 1, none⟩ = some (.string ar) := hcr
                  replace HL := hd (Kd.R_drewN HL.out 1)
                  replace HL : Hd (Kd.R (Kd.int .i64) 2 wr.drew _ _ _ _) := HL
                  replace HBK : Hd (Below wk.heap.size wk wr.drew) := hd (below_drew1 HBK.out)
                  obtain ⟨fb, hfb⟩ : ∃ b, hasB (l_.take t) ar = b := ⟨_, rfl⟩
                  rw [hfb]
                  have HFB := hd hfb
                  clear hfb
                  cases fb with
                  | true =>
                    refine start_ (n := 15) (S := fun w' => True) (ds := []) #[false, false, false, false, false, false, false, false, false, false, false, false, false, false, false] (by kernel_rfl) rfl rfl trivial (fun hHeld => ?_)
                    refine with_tabW parts.tab35 parts.bits35 (fun HT_ HW_ => ?_)
                    refine pure_ (i := 0) (N := (some 241)) (v := ?_) (a' := ?_) #[true, false, false, false, false, false, false, false, false, false, false, false, false, false, false] rfl rfl (any_of HT_.out (by kernel_rfl)) (fun _ _ _ h => h) (Or.inl ⟨by rfl, ?_⟩) ?_ ?_
                    rotate_left
                    · intro w'
                      go_simp
                      with_reducible rfl
                    rotate_left
                    · simp only [Act.put, List.setIfInBounds_toArray, List.set_cons_zero, List.set_cons_succ, i64_w, i32_w]
                      rfl
                    refine pure_ (i := 1) (N := (some 242)) (v := ?_) (a' := ?_) #[true, true, false, false, false, false, false, false, false, false, false, false, false, false, false] rfl rfl (any_of HT_.out (by kernel_rfl)) (fun _ _ _ h => h) (Or.inl ⟨by rfl, ?_⟩) ?_ ?_
                    rotate_left
                    · intro w'
                      go_simp
                      with_reducible rfl
                    rotate_left
                    · simp only [Act.put, List.setIfInBounds_toArray, List.set_cons_zero, List.set_cons_succ, i64_w, i32_w]
                      rfl
                    refine pure_ (i := 2) (N := (some 243)) (v := undef) (a' := ?_) #[true, true, true, false, false, false, false, false, false, false, false, false, false, false, false] rfl rfl (any_of HT_.out (by kernel_rfl)) (fun _ _ _ h => h) (Or.inr ⟨by rfl, rfl⟩) ?_ ?_
                    rotate_left
                    · simp only [Act.put, List.setIfInBounds_toArray, List.set_cons_zero, List.set_cons_succ, i64_w, i32_w]
                      rfl
                    refine pure_ (i := 3) (N := (some 244)) (v := undef) (a' := ?_) #[true, true, true, true, false, false, false, false, false, false, false, false, false, false, false] rfl rfl (any_of HT_.out (by kernel_rfl)) (fun _ _ _ h => h) (Or.inr ⟨by rfl, rfl⟩) ?_ ?_
                    rotate_left
                    · simp only [Act.put, List.setIfInBounds_toArray, List.set_cons_zero, List.set_cons_succ, i64_w, i32_w]
                      rfl
                    refine pure_ (i := 4) (N := (some 245)) (v := undef) (a' := ?_) #[true, true, true, true, true, false, false, false, false, false, false, false, false, false, false] rfl rfl (any_of HT_.out (by kernel_rfl)) (fun _ _ _ h => h) (Or.inr ⟨by rfl, rfl⟩) ?_ ?_
                    rotate_left
                    · simp only [Act.put, List.setIfInBounds_toArray, List.set_cons_zero, List.set_cons_succ, i64_w, i32_w]
                      rfl
                    refine pure_ (i := 5) (N := (some 246)) (v := undef) (a' := ?_) #[true, true, true, true, true, true, false, false, false, false, false, false, false, false, false] rfl rfl (any_of HT_.out (by kernel_rfl)) (fun _ _ _ h => h) (Or.inr ⟨by rfl, rfl⟩) ?_ ?_
                    rotate_left
                    · simp only [Act.put, List.setIfInBounds_toArray, List.set_cons_zero, List.set_cons_succ, i64_w, i32_w]
                      rfl
                    refine pure_ (i := 6) (N := (some 247)) (v := undef) (a' := ?_) #[true, true, true, true, true, true, true, false, false, false, false, false, false, false, false] rfl rfl (any_of HT_.out (by kernel_rfl)) (fun _ _ _ h => h) (Or.inr ⟨by rfl, rfl⟩) ?_ ?_
                    rotate_left
                    · simp only [Act.put, List.setIfInBounds_toArray, List.set_cons_zero, List.set_cons_succ, i64_w, i32_w]
                      rfl
                    refine pure_ (i := 7) (N := (some 248)) (v := undef) (a' := ?_) #[true, true, true, true, true, true, true, true, false, false, false, false, false, false, false] rfl rfl (any_of HT_.out (by kernel_rfl)) (fun _ _ _ h => h) (Or.inr ⟨by rfl, rfl⟩) ?_ ?_
                    rotate_left
                    · simp only [Act.put, List.setIfInBounds_toArray, List.set_cons_zero, List.set_cons_succ, i64_w, i32_w]
                      rfl
                    refine pure_ (i := 8) (N := (some 249)) (v := undef) (a' := ?_) #[true, true, true, true, true, true, true, true, true, false, false, false, false, false, false] rfl rfl (any_of HT_.out (by kernel_rfl)) (fun _ _ _ h => h) (Or.inr ⟨by rfl, rfl⟩) ?_ ?_
                    rotate_left
                    · simp only [Act.put, List.setIfInBounds_toArray, List.set_cons_zero, List.set_cons_succ, i64_w, i32_w]
                      rfl
                    refine pure_ (i := 9) (N := (some 250)) (v := undef) (a' := ?_) #[true, true, true, true, true, true, true, true, true, true, false, false, false, false, false] rfl rfl (any_of HT_.out (by kernel_rfl)) (fun _ _ _ h => h) (Or.inr ⟨by rfl, rfl⟩) ?_ ?_
                    rotate_left
                    · simp only [Act.put, List.setIfInBounds_toArray, List.set_cons_zero, List.set_cons_succ, i64_w, i32_w]
                      rfl
                    refine pure_ (i := 10) (N := (some 251)) (v := undef) (a' := ?_) #[true, true, true, true, true, true, true, true, true, true, true, false, false, false, false] rfl rfl (any_of HT_.out (by kernel_rfl)) (fun _ _ _ h => h) (Or.inr ⟨by rfl, rfl⟩) ?_ ?_
                    rotate_left
                    · simp only [Act.put, List.setIfInBounds_toArray, List.set_cons_zero, List.set_cons_succ, i64_w, i32_w]
                      rfl
                    refine pure_ (i := 11) (N := (some 252)) (v := undef) (a' := ?_) #[true, true, true, true, true, true, true, true, true, true, true, true, false, false, false] rfl rfl (any_of HT_.out (by kernel_rfl)) (fun _ _ _ h => h) (Or.inr ⟨by rfl, rfl⟩) ?_ ?_
                    rotate_left
                    · simp only [Act.put, List.setIfInBounds_toArray, List.set_cons_zero, List.set_cons_succ, i64_w, i32_w]
                      rfl
                    refine pure_ (i := 12) (N := (some 253)) (v := undef) (a' := ?_) #[true, true, true, true, true, true, true, true, true, true, true, true, true, false, false] rfl rfl (any_of HT_.out (by kernel_rfl)) (fun _ _ _ h => h) (Or.inr ⟨by rfl, rfl⟩) ?_ ?_
                    rotate_left
                    · simp only [Act.put, List.setIfInBounds_toArray, List.set_cons_zero, List.set_cons_succ, i64_w, i32_w]
                      rfl
                    refine pure_ (i := 13) (N := (some 254)) (v := ?_) (a' := ?_) #[true, true, true, true, true, true, true, true, true, true, true, true, true, true, false] rfl rfl (any_of HT_.out (by kernel_rfl)) (fun _ _ _ h => h) (Or.inl ⟨by rfl, ?_⟩) ?_ ?_
                    rotate_left
                    · intro w'
                      go_simp
                      with_reducible rfl
                    rotate_left
                    · simp only [Act.put, List.setIfInBounds_toArray, List.set_cons_zero, List.set_cons_succ, i64_w, i32_w]
                      rfl
                    refine pure_ (i := 14) (N := (some 39)) (v := ?_) (a' := ?_) #[true, true, true, true, true, true, true, true, true, true, true, true, true, true, true] rfl rfl (any_of HT_.out (by kernel_rfl)) (fun _ _ _ h => h) (Or.inl ⟨by rfl, ?_⟩) ?_ ?_
                    rotate_left
                    · intro w'
                      go_simp
                      with_reducible rfl
                    rotate_left
                    · simp only [Act.put, List.setIfInBounds_toArray, List.set_cons_zero, List.set_cons_succ, i64_w, i32_w]
                      rfl
                    refine done_ (done_of HT_.out (by kernel_rfl)) ?_
                    clear HT_ HW_
                    clear hct hcr
                    go_wp2
                    go_roundw
                    case rel => exact ⟨t + 1, by omega, by go_num, by rw [hasB_snoc _ _ (by omega), HFB.out]; rfl, HL, HBK⟩
                    case measure => simp [intOf]; omega
                  | false =>
                    refine start_ (n := 15) (S := fun w' => w'.cell? ⟨(adr.add (t * 9)).block, (adr.add (t * 9)).off + 1, none⟩ = some (.string at_) ∧ w'.cell? ⟨(adr.add (r * 9)).block, (adr.add (r * 9)).off + 1, none⟩ = some (.string ar)) (ds := []) #[false, false, false, false, false, false, false, false, false, false, false, false, false, false, false] (by kernel_rfl) rfl rfl ⟨hct, hcr⟩ (fun hHeld => ?_)
                    refine with_tabW parts.tab35 parts.bits35 (fun HT_ HW_ => ?_)
                    refine pure_ (i := 0) (N := (some 241)) (v := ?_) (a' := ?_) #[true, false, false, false, false, false, false, false, false, false, false, false, false, false, false] rfl rfl (any_of HT_.out (by kernel_rfl)) (fun _ _ _ h => h) (Or.inl ⟨by rfl, ?_⟩) ?_ ?_
                    rotate_left
                    · intro w'
                      go_simp
                      with_reducible rfl
                    rotate_left
                    · simp only [Act.put, List.setIfInBounds_toArray, List.set_cons_zero, List.set_cons_succ, i64_w, i32_w]
                      rfl
                    refine pure_ (i := 1) (N := (some 242)) (v := ?_) (a' := ?_) #[true, true, false, false, false, false, false, false, false, false, false, false, false, false, false] rfl rfl (any_of HT_.out (by kernel_rfl)) (fun _ _ _ h => h) (Or.inl ⟨by rfl, ?_⟩) ?_ ?_
                    rotate_left
                    · intro w'
                      go_simp
                      with_reducible rfl
                    rotate_left
                    · simp only [Act.put, List.setIfInBounds_toArray, List.set_cons_zero, List.set_cons_succ, i64_w, i32_w]
                      rfl
                    refine pure_ (i := 2) (N := (some 243)) (v := ?_) (a' := ?_) #[true, true, true, false, false, false, false, false, false, false, false, false, false, false, false] rfl rfl (any_of HT_.out (by kernel_rfl)) (fun _ _ _ h => h) (Or.inl ⟨by rfl, ?_⟩) ?_ ?_
                    rotate_left
                    · intro w'
                      go_simp
                      with_reducible rfl
                    rotate_left
                    · simp only [Act.put, List.setIfInBounds_toArray, List.set_cons_zero, List.set_cons_succ, i64_w, i32_w]
                      rfl
                    refine pure_ (i := 3) (N := (some 244)) (v := ?_) (a' := ?_) #[true, true, true, true, false, false, false, false, false, false, false, false, false, false, false] rfl rfl (any_of HT_.out (by kernel_rfl)) (fun _ _ _ h => h) (Or.inl ⟨by rfl, ?_⟩) ?_ ?_
                    rotate_left
                    · intro w'
                      go_simp
                      with_reducible rfl
                    rotate_left
                    · simp only [Act.put, List.setIfInBounds_toArray, List.set_cons_zero, List.set_cons_succ, i64_w, i32_w]
                      rfl
                    refine pure_ (i := 4) (N := (some 245)) (v := ?_) (a' := ?_) #[true, true, true, true, true, false, false, false, false, false, false, false, false, false, false] rfl rfl (any_of HT_.out (by kernel_rfl)) (fun _ _ _ h => h) (Or.inl ⟨by rfl, ?_⟩) ?_ ?_
                    rotate_left
                    · intro w'
                      go_simp
                      with_reducible rfl
                    rotate_left
                    · simp only [Act.put, List.setIfInBounds_toArray, List.set_cons_zero, List.set_cons_succ, i64_w, i32_w]
                      rfl
                    refine pure_ (i := 5) (N := (some 246)) (v := ?_) (a' := ?_) #[true, true, true, true, true, true, false, false, false, false, false, false, false, false, false] rfl rfl (any_of HT_.out (by kernel_rfl)) (fun _ _ _ h => h) (Or.inl ⟨by rfl, ?_⟩) ?_ ?_
                    rotate_left
                    · intro w'
                      go_simp
                      with_reducible rfl
                    rotate_left
                    · simp only [Act.put, List.setIfInBounds_toArray, List.set_cons_zero, List.set_cons_succ, i64_w, i32_w]
                      rfl
                    refine take_ (i := 6) (N := (some 247)) (v := ?_) (a' := ?_) #[true, true, true, true, true, true, true, false, false, false, false, false, false, false, false] rfl rfl (take_ofW HT_.out HW_.out (by kernel_rfl)) (fun _ _ _ h => h) (Or.inl ⟨by rfl, ?_⟩) hHeld ?_ ?_
                    rotate_left
                    · rintro w' ⟨s0, s1⟩
                      go_simp
                      with_reducible rfl
                    rotate_left
                    · simp only [Act.put, List.setIfInBounds_toArray, List.set_cons_zero, List.set_cons_succ, i64_w, i32_w]
                      rfl
                    refine pure_ (i := 7) (N := (some 248)) (v := ?_) (a' := ?_) #[true, true, true, true, true, true, true, true, false, false, false, false, false, false, false] rfl rfl (any_of HT_.out (by kernel_rfl)) (fun _ _ _ h => h) (Or.inl ⟨by rfl, ?_⟩) ?_ ?_
                    rotate_left
                    · intro w'
                      go_simp
                      with_reducible rfl
                    rotate_left
                    · simp only [Act.put, List.setIfInBounds_toArray, List.set_cons_zero, List.set_cons_succ, i64_w, i32_w]
                      rfl
                    refine pure_ (i := 8) (N := (some 249)) (v := ?_) (a' := ?_) #[true, true, true, true, true, true, true, true, true, false, false, false, false, false, false] rfl rfl (any_of HT_.out (by kernel_rfl)) (fun _ _ _ h => h) (Or.inl ⟨by rfl, ?_⟩) ?_ ?_
                    rotate_left
                    · intro w'
                      go_simp
                      with_reducible rfl
                    rotate_left
                    · simp only [Act.put, List.setIfInBounds_toArray, List.set_cons_zero, List.set_cons_succ, i64_w, i32_w]
                      rfl
                    refine pure_ (i := 9) (N := (some 250)) (v := ?_) (a' := ?_) #[true, true, true, true, true, true, true, true, true, true, false, false, false, false, false] rfl rfl (any_of HT_.out (by kernel_rfl)) (fun _ _ _ h => h) (Or.inl ⟨by rfl, ?_⟩) ?_ ?_
                    rotate_left
                    · intro w'
                      go_simp
                      with_reducible rfl
                    rotate_left
                    · simp only [Act.put, List.setIfInBounds_toArray, List.set_cons_zero, List.set_cons_succ, i64_w, i32_w]
                      rfl
                    refine pure_ (i := 10) (N := (some 251)) (v := ?_) (a' := ?_) #[true, true, true, true, true, true, true, true, true, true, true, false, false, false, false] rfl rfl (any_of HT_.out (by kernel_rfl)) (fun _ _ _ h => h) (Or.inl ⟨by rfl, ?_⟩) ?_ ?_
                    rotate_left
                    · intro w'
                      go_simp
                      with_reducible rfl
                    rotate_left
                    · simp only [Act.put, List.setIfInBounds_toArray, List.set_cons_zero, List.set_cons_succ, i64_w, i32_w]
                      rfl
                    refine take_ (i := 11) (N := (some 252)) (v := ?_) (a' := ?_) #[true, true, true, true, true, true, true, true, true, true, true, true, false, false, false] rfl rfl (take_ofW HT_.out HW_.out (by kernel_rfl)) (fun _ _ _ h => h) (Or.inl ⟨by rfl, ?_⟩) hHeld ?_ ?_
                    rotate_left
                    · rintro w' ⟨s0, s1⟩
                      go_simp
                      with_reducible rfl
                    rotate_left
                    · simp only [Act.put, List.setIfInBounds_toArray, List.set_cons_zero, List.set_cons_succ, i64_w, i32_w]
                      rfl
                    refine pure_ (i := 12) (N := (some 253)) (v := ?_) (a' := ?_) #[true, true, true, true, true, true, true, true, true, true, true, true, true, false, false] rfl rfl (any_of HT_.out (by kernel_rfl)) (fun _ _ _ h => h) (Or.inl ⟨by rfl, ?_⟩) ?_ ?_
                    rotate_left
                    · intro w'
                      go_simp
                      with_reducible rfl
                    rotate_left
                    · simp only [Act.put, List.setIfInBounds_toArray, List.set_cons_zero, List.set_cons_succ, i64_w, i32_w]
                      rfl
                    refine pure_ (i := 13) (N := (some 254)) (v := ?_) (a' := ?_) #[true, true, true, true, true, true, true, true, true, true, true, true, true, true, false] rfl rfl (any_of HT_.out (by kernel_rfl)) (fun _ _ _ h => h) (Or.inl ⟨by rfl, ?_⟩) ?_ ?_
                    rotate_left
                    · intro w'
                      go_simp
                      with_reducible rfl
                    rotate_left
                    · simp only [Act.put, List.setIfInBounds_toArray, List.set_cons_zero, List.set_cons_succ, i64_w, i32_w]
                      rfl
                    refine pure_ (i := 14) (N := (some 39)) (v := ?_) (a' := ?_) #[true, true, true, true, true, true, true, true, true, true, true, true, true, true, true] rfl rfl (any_of HT_.out (by kernel_rfl)) (fun _ _ _ h => h) (Or.inl ⟨by rfl, ?_⟩) ?_ ?_
                    rotate_left
                    · intro w'
                      go_simp
                      with_reducible rfl
                    rotate_left
                    · simp only [Act.put, List.setIfInBounds_toArray, List.set_cons_zero, List.set_cons_succ, i64_w, i32_w]
                      rfl
                    refine done_ (done_of HT_.out (by kernel_rfl)) ?_
                    clear HT_ HW_
                    clear hct hcr
                    go_wp2
                    go_roundw
                    case rel => exact ⟨t + 1, by omega, by go_num, by rw [hasB_snoc _ _ (by omega), HFB.out, HAT.out, Bool.false_or, ba_beq], HL, HBK⟩
                    case measure => simp [intOf]; omega
                · obtain rfl : t = r := by omega
                  have htr' : ¬ ((t : Int) < (t : Int)) := by omega
                  obtain ⟨adr, e, -, hcr, -⟩ := at_T56 (Kd.C_below HC.out HBK.out) (t : Int) (by omega) (by omega)
                  subst e
                  rw [accs_get ra t (by omega), HL_.out, HAR.out, Int.toNat_natCast] at hcr
                  obtain ⟨fb, hfb⟩ : ∃ b, hasB (l_.take t) ar = b := ⟨_, rfl⟩
                  rw [hfb]
                  have HFB := hd hfb
                  clear hfb
                  by_cases hae : ar = ByteArray.empty
                  · subst hae
                    cases fb with
                    | true =>
                      go_wp2_with fail
                      refine (awake_walk wr).mono ?_
                      rintro e wz ⟨rfl, b⟩
                      have HBZ : Hd (Below w.heap.size w wz) := hd (below_then HB2.out HB2.out.size (below_then HBK.out HBK.out.size b))
                      clear b
                      go_wp2
                      go_ret
                      exact ⟨rfl, HBZ.out⟩
                    | false =>
                      go_wp2_with fail
                      refine (awake_walk wr).mono ?_
                      rintro e wz ⟨rfl, b⟩
                      have HBZ : Hd (Below w.heap.size w wz) := hd (below_then HB2.out HB2.out.size (below_then HBK.out HBK.out.size b))
                      clear b
                      go_wp2
                      go_ret
                      exact ⟨rfl, HBZ.out⟩
                  · have hae' : ar.toList.isEmpty = false := ba_full hae
                    have hne : ByteArray.empty ∉ l_.take (t + 1) := by
                      rw [take_one (by omega), HAR.out]
                      intro hm
                      rcases List.mem_append.1 hm with hm | hm
                      · exact HE.out hm
                      · exact hae (List.mem_singleton.1 hm).symm
                    have HE2 := hd hne
                    clear hne
                    cases fb with
                    | true =>
                      go_wp2
                      go_roundw
                      case rel => exact ⟨t + 1, by omega, by go_num, HE2, hd (by rw [each_old _ _ _ _ _ _ (by rw [HAR.out]; exact HFB.out)]; exact HL.out), HBK⟩
                      case measure => simp [intOf]; omega
                    | false =>
                      go_wp2_with fail
                      have HSr := hd (HS2.out.below HBK.out)
                      have kk : usedR (totalP P (idsP P) ar lo hi).1 (totalP P (idsP P) ar lo hi).2 lo hi = .tuple #[.int .i64 (totalP P (idsP P) ar lo hi).1, .bool (totalP P (idsP P) ar lo hi).2, .int .i64 0] := by unfold usedR; rw [if_pos K3.out]
                      refine (used_st HSr.out hids4 5000 ar lo hi _ _ (total_sum _ _ _ lo hi hids4)).mono ?_
                      rintro e w21 ⟨rfl, b⟩
                      rw [kk]
                      clear kk
                      have HEN : Hd (eachL P (idsP P) lo hi l_ (t + 1) = eachL P (idsP P) lo hi l_ t ++ [(totalP P (idsP P) ar lo hi).1]) := hd (by rw [each_new _ _ _ _ _ _ (by rw [HAR.out]; exact HFB.out), HAR.out])
                      obtain ⟨tv, hv⟩ : ∃ v, (totalP P (idsP P) ar lo hi).1 = v := ⟨_, rfl⟩
                      obtain ⟨ov, ho⟩ : ∃ v, (totalP P (idsP P) ar lo hi).2 = v := ⟨_, rfl⟩
                      rw [hv] at HEN ⊢
                      rw [ho]
                      clear hv ho
                      have HB21 : Hd (Below wk.heap.size wk w21) := hd (below_then HBK.out HBK.out.size b)
                      have HL21 := hd (Kd.R_below HL.out b)
                      clear b HL HBK HSr
                      go_wp2_with ((with_reducible refine gate_builtin (b := .append) (xs := #[.tmp 277, .tmp 279]) rfl ?_); at_builtin; refine Kd.R_append (Kd.int .i64) (w0 := wk) wk.heap.size rfl (.tmp 277) (.tmp 279) 22 2 (.int .i64 0) 8 rfl Try.underlying22 info2 rfl (by decide) (by omega) u36 (eachL P (idsP P) lo hi l_ t) tv [.int .i64 tv] (fun _ => True) (fun _ => False) rfl rfl rfl (fun _ hk => hk.elim) (fun _ _ => trivial) HL21.out HB21.out ?aS ?aL ?_; (case aS => exact HB21.out.size); (case aL => have := each_len P (idsP P) lo hi l_ t; omega); intro v1 w4 hv1 hb1 hg1 hat1; (obtain ⟨adr2, e2, -, hcr4, -⟩ := at_T56 (Kd.C_below HC.out hb1) (t : Int) (by omega) (by omega)); cases e2; (rw [accs_get ra t (by omega), HL_.out, HAR.out, Int.toNat_natCast] at hcr4))
                      go_roundw
                      case rel => exact ⟨t + 1, by omega, by go_num, HE2, hd (by rw [HEN.out]; exact hv1), hd hb1⟩
                      case measure => simp [intOf]; omega
            · obtain rfl : r = ra.length := by omega
              have hr' : ¬ ((ra.length : Int) < (ra.length : Int)) := by omega
              have hle := each_len P (idsP P) lo hi l_ ra.length
              have hei := each_i64 HK.out.ok HO2.out.1 HO2.out.2.1 HO2.out.2.2.1 HO2.out.2.2.2 (idsP P) l_ ra.length
              obtain ⟨E, hE⟩ : ∃ E, eachL P (idsP P) lo hi l_ ra.length = E := ⟨_, rfl⟩
              rw [hE] at hle hei HL
              obtain ⟨al, mo, hsm⟩ : ∃ a b, sumP 0 E = (a, b) := ⟨_, _, rfl⟩
              have HEQ := hd hE
              have HEI := hd hei
              have HSM := hd hsm
              clear hE hei hsm
              obtain ⟨Ae, ce, rfl, hce, hCe⟩ := Kd.R_reads HL.out
              go_wp2_with fail
              refine (account_Sum.calls 5000 Ae ce E al mo wr hCe hce (by rw [sum_spec E (by omega) HEI.out 5000 (by omega), HSM.out])).mono ?_
              rintro e w20 ⟨rfl, b⟩
              have HB20 : Hd (Below w.heap.size w w20) := hd (below_then HB2.out HB2.out.size (below_then HBK.out HBK.out.size b))
              clear b hCe hce HL HBK
              have hall : mo = false → o3 = false → al = t3 := fun e1 e2 => by
                have h_ := each_all HK.out.ok HO2.out.1 HO2.out.2.1 HO2.out.2.2.1 HO2.out.2.2.2 (idsP P) ra HRA.out (by rw [HL_.out]; exact HE.out) (by rw [HL_.out, HEQ.out, HSM.out]; exact e1) (by have h3 := HT3.out; rw [show totalP P (idsP P) ByteArray.empty lo hi = (t3, o3) from h3]; exact e2)
                rw [HL_.out, HEQ.out, HSM.out, show totalP P (idsP P) ByteArray.empty lo hi = (t3, o3) from HT3.out] at h_
                exact h_
              have HALL := hd hall
              clear hall
              cases mo with
              | true =>
                go_wp2_with fail
                refine (awake_walk w20).mono ?_
                rintro e wz ⟨rfl, b⟩
                have HBZ : Hd (Below w.heap.size w wz) := hd (below_then HB20.out HB20.out.size b)
                clear b
                go_wp2
                go_ret
                exact ⟨rfl, HBZ.out⟩
              | false =>
                cases o3 with
                | true =>
                  go_wp2_with fail
                  refine (awake_walk w20).mono ?_
                  rintro e wz ⟨rfl, b⟩
                  have HBZ : Hd (Below w.heap.size w wz) := hd (below_then HB20.out HB20.out.size b)
                  clear b
                  go_wp2
                  go_ret
                  exact ⟨rfl, HBZ.out⟩
                | false =>
                  have he := HALL.out rfl rfl
                  subst he
                  go_wp2_with fail
                  refine (awake_walk w20).mono ?_
                  rintro e wz ⟨rfl, b⟩
                  have HBZ : Hd (Below w.heap.size w wz) := hd (below_then HB20.out HB20.out.size b)
                  clear b
                  go_wp2
                  go_ret
                  exact ⟨rfl, HBZ.out⟩
def musterlaw27_AccountParts.f (l0 : List S36) (a1 a2 a3 a4 : Int) : Option Bool := some true
theorem musterlaw27_AccountParts.calls (A0 : Option Addr) (c0 : Nat) (l0 : List S36) (a1 a2 a3 a4 : Int) (r : Bool) (w : World) (hr0 : Kd.C k36 w A0 l0.length l0) (hc0 : l0.length ≤ c0) (h : musterlaw27_AccountParts.f l0 a1 a2 a3 a4 = some r) :
    Calls Try.prog 6 #[.slice A0 l0.length c0, .int .i64 a1, .int .i64 a2, .int .i64 a3, .int .i64 a4] w fun e w' => e = .returned (.bool r) ∧ Below w.heap.size w w' := by
  cases h
  exact parts_walk A0 c0 l0 a1 a2 a3 a4 w hr0 hc0
end Go.Proofs.Ytinpgejkkfpckaa.Pr
