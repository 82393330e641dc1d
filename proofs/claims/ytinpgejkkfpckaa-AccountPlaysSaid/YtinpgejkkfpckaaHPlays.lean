-- MINIFIED by wip/tools/minify.py
/-
 musterlaw27.AccountPlays, by hand: the program's store and the document's list of events tell the same.
-/
import Derived.Test.YtinpgejkkfpckaaHCopy
import Derived.Test.YtinpgejkkfpckaaHAwake
import Derived.Test.YtinpgejkkfpckaaQ7
namespace Go.Proofs.Ytinpgejkkfpckaa.Pr
open Go.RowKit Go.Proofs.YtinpgejkkfpckaaW.PrintWords Go.Proofs.YtinpgejkkfpckaaW.PrintLast Go.Proofs.YtinpgejkkfpckaaW.PrintMore Go.Proofs.YtinpgejkkfpckaaG
set_option linter.unusedVariables false
set_option linter.unusedSimpArgs false
def plays.T9 : Bool × List (List Nat × List Nat) := (true, [([], []), ([], []), ([0, 1], [0, 1]), ([2], [2]), ([3], [3]), ([3], [3]), ([4, 5, 3], [3, 4, 5]), ([3, 6], [3, 6]), ([7, 3], [7]), ([8], [8]), ([8], [8]), ([9, 10, 8], [8, 9, 10]), ([11, 8], [8, 11]), ([12, 8, 8], [8, 12]), ([8], [8]), ([8], [8]), ([14, 15, 8], [8, 14, 15]), ([16, 8], [8, 16]), ([17, 13, 8], [8, 17]), ([13, 18, 8], [8, 13, 18]), ([8, 19], [8, 19])])
def plays.B9 : List Nat := [0, 0, 3, 7, 15, 15, 63, 127, 255, 511, 511, 2047, 4095, 8191, 511, 511, 49663, 115199, 262143, 524287, 1048575]
theorem plays.tab9 : rtab .any (opsOf Try.f8 9) = plays.T9 := by kernel_rfl
theorem plays.bits9 : waitsOk plays.T9.2 plays.B9 = true := by kernel_rfl
set_option maxRecDepth 100000 in
set_option maxHeartbeats 8000000 in
theorem plays_walk (A : Option Addr) (c : Nat) (l : List S36) (name : ByteArray) (fr tt : Int) (w : World) (hr : Kd.C k36 w A l.length l) (hc : l.length ≤ c) :
  Calls Try.prog 8 #[.slice A l.length c, .string name, .int .i64 fr, .int .i64 tt] w fun e w' => e = .returned (.bool true) ∧ Below w.heap.size w w' := by
 have hu36 := Try.underlying36
 have hlen : l.length ≤ 9223372036854775807 := hr.2.1
 have HR := hd hr
 clear hr
 go_enter Try.func8, Try.ntmps8
 go_wp2_with fail
 refine (new_st w (fun k => w.heap.size ≤ k) (fun _ h => h)).mono ?_
 rintro e w1 ⟨s, rfl, hs, hS, hb⟩
 have HB1 := hd hb
 have S1 := hd hS
 clear hb hS
 go_wp2
 go_loopw [10, 11] (fun wv iv wr => ∃ (i : Nat) (u : List S36), i ≤ l.length ∧ i ≤ 60 ∧ iv = .int .i64 (i : Int) ∧ u.length ≤ i ∧ Hd (OkP (u.map pastS)) ∧ Hd (KeyND (u.map pastS)) ∧ ∃ (okS okL : Nat → Prop), Hd (∀ k, okS k → ¬ okL k) ∧ Hd (∀ k, okS k → w.heap.size ≤ k) ∧ Hd (St wr w.heap.size okS s (u.map pastS) (idsP (u.map pastS))) ∧ Hd (Kd.R k36 36 wr w.heap.size okL wv u) ∧ Hd (Below w.heap.size w wr)) (fun _ iv _ => l.length - (intOf iv).toNat)
 case atStart => exact ⟨0, [], by omega, by omega, rfl, Nat.le_refl _, hd (by intro p hp; cases hp), hd List.Pairwise.nil, fun k => w.heap.size ≤ k, fun _ => False, hd (fun _ _ h => h), hd (fun _ h => h), S1, hd (Kd.R_nil _ _ _ _ _), HB1⟩
 case round =>
  obtain ⟨i, u, hi, hi60, rfl, hu, HOK, HKN, okS, okL, HAP, HBA, HS, HW, HB⟩ := hrel
  by_cases hmore : i < l.length ∧ i < 60
  ·obtain ⟨hlt, hlt60⟩ := hmore
   obtain ⟨ad, rfl, q0, q1, q2, q3, q4, q5, q6, q7⟩ := at_T36 (Kd.C_below HR.out HB.out) (i : Int) (by omega) (by omega)
   obtain ⟨x, hx⟩ : ∃ x, rd_T36 l (i : Int) = x := ⟨_, rfl⟩
   have HX := hd hx
   rw [hx, Int.toNat_natCast] at q0 q1 q2 q3 q4 q5 q6 q7
   clear hx
   have hi1 : (i : Int) < (l.length : Int) := by omega
   have hi2 : (i : Int) < 60 := by omega
   have hids := idsP_len (u.map pastS)
   rw [List.length_map] at hids
   go_wp2_with fail
   refine (take_st (ok := fun k => okS k ∨ wr.heap.size ≤ k) (HS.out.mono fun k h => .inl h) (fun k h => .inr h) HB.out.size (idsP_rise _) (by omega) (pastS x)).mono ?_
   rintro e w2 ⟨rfl, hS2, hO2⟩
   have HB2 : Hd (Below w.heap.size w w2) := hd (hO2.to_below (fun k h => h.elim (HBA.out k) (fun h => Nat.le_trans HB.out.size h)) HB.out HB.out.size)
   have HW2 : Hd (Kd.R k36 36 w2 w.heap.size (fun k => okL k ∧ k < wr.heap.size) u10 u) := hd (Kd.R_mono (Kd.R_move (Kd.R_bound HW.out) (fun k hk => hO2.block k hk.2.2.1 (fun h => h.elim (fun h => HAP.out k h hk.1) (fun h => by have := hk.2.2.1; omega)))) (fun k hk => ⟨hk.1, hk.2.2.1⟩))
   have hsz2 : wr.heap.size ≤ w2.heap.size := hO2.size
   rw [playU_state] at hS2
   have HS2 := hd hS2.bound
   obtain ⟨tb, htb⟩ : ∃ b, (takeT (u.map pastS) (idsP (u.map pastS)) (pastS x)).1 = b := ⟨_, rfl⟩
   obtain ⟨te, hte⟩ : ∃ b, (takeT (u.map pastS) (idsP (u.map pastS)) (pastS x)).2.1 = b := ⟨_, rfl⟩
   have HTB := hd htb
   have HTE := hd hte
   rw [htb, hte]
   clear htb hte hS2 hO2 q0 q1 q2 q3 q4 q5 q6 q7 HS HW
   obtain ⟨ad', ea, q0, q1, q2, q3, q4, q5, q6, q7⟩ := at_T36 (Kd.C_below HR.out HB2.out) (i : Int) (by omega) (by omega)
   cases ea
   rw [HX.out, Int.toNat_natCast] at q0 q1 q2 q3 q4 q5 q6 q7
   go_wp2_with fail
   refine (reftake_any w.heap.size (fun k => okL k ∧ k < wr.heap.size) u10 u x w2 (by omega) HW2.out HB2.out.size).mono ?_
   rintro e w3 ⟨v3, rfl, hW3, hB3⟩
   rw [HTB.out, HTE.out]
   have HB3 : Hd (Below w.heap.size w w3) := hd (below_then HB2.out HB2.out.size hB3)
   have HW3 := hd hW3
   have HS3 : Hd (St w3 w.heap.size (fun k => (okS k ∨ wr.heap.size ≤ k) ∧ k < w2.heap.size) s ((playU u x).map pastS) (idsP ((playU u x).map pastS))) := hd (HS2.out.below hB3)
   clear hW3 hB3 HB2 HW2 HS2 HTB HTE q0 q1 q2 q3 q4 q5 q6 q7
   obtain ⟨A3, c3, rfl⟩ := Kd.R_slice HW3.out
   obtain ⟨ad', ea, q0, q1, q2, q3, q4, q5, q6, q7⟩ := at_T36 (Kd.C_below HR.out HB3.out) (i : Int) (by omega) (by omega)
   cases ea
   rw [HX.out, Int.toNat_natCast] at q0 q1 q2 q3 q4 q5 q6 q7
   go_wp2_with fail
   have HB5 : Hd (Below w.heap.size w w3.drew) := hd (below_drew1 HB3.out)
   have HW5 := hd (Kd.R_drewN HW3.out 1)
   have HS5 := hd (HS3.out.drewN 1)
   replace HS5 : Hd (St w3.drew _ _ _ _ _) := HS5
   replace HW5 : Hd (Kd.R k36 36 w3.drew _ _ _ _) := HW5
   refine start_ (n := 21) (S := fun w' => w'.cell? (ad.add (i * 8)) = some (.int .i64 x.f0) ∧ w'.cell? ⟨(ad.add (i * 8)).block, (ad.add (i * 8)).off + 1, none⟩ = some (.int .u8 x.f1) ∧ w'.cell? ⟨(ad.add (i * 8)).block, (ad.add (i * 8)).off + 2, none⟩ = some (.int .i64 x.f2) ∧ w'.cell? ⟨(ad.add (i * 8)).block, (ad.add (i * 8)).off + 3, none⟩ = some (.string x.f3) ∧ w'.cell? ⟨(ad.add (i * 8)).block, (ad.add (i * 8)).off + 4, none⟩ = some (.string x.f4) ∧ w'.cell? ⟨(ad.add (i * 8)).block, (ad.add (i * 8)).off + 5, none⟩ = some (.int .i64 x.f5) ∧ w'.cell? ⟨(ad.add (i * 8)).block, (ad.add (i * 8)).off + 6, none⟩ = some (.int .i64 x.f6) ∧ w'.cell? ⟨(ad.add (i * 8)).block, (ad.add (i * 8)).off + 7, none⟩ = some (.int .u8 x.f7)) (ds := []) #[false, false, false, false, false, false, false, false, false, false, false, false, false, false, false, false, false, false, false, false, false] (by kernel_rfl) rfl rfl ⟨q0, q1, q2, q3, q4, q5, q6, q7⟩ (fun hHeld => ?_)
   refine with_tabW plays.tab9 plays.bits9 (fun HT_ HW_ => ?_)
   generalize w3.drew = w5 at HB5 HW5 HS5 hHeld ⊢
   obtain ⟨s0, s1, s2, s3, s4, s5, s6, s7⟩ := hHeld
   have hHeld := And.intro s0 (And.intro s1 (And.intro s2 (And.intro s3 (And.intro s4 (And.intro s5 (And.intro s6 s7))))))
   refine pure_ (i := 0) (N := (some 68)) (v := ?_) (a' := ?_) #[true, false, false, false, false, false, false, false, false, false, false, false, false, false, false, false, false, false, false, false, false] rfl rfl (any_of HT_.out (by kernel_rfl)) (fun _ _ _ h => h) (Or.inl ⟨by rfl, ?_⟩) ?_ ?_
   rotate_left
   ·intro w'
    go_simp
    with_reducible rfl
   rotate_left
   ·simp only [Act.put, List.setIfInBounds_toArray, List.set_cons_zero, List.set_cons_succ, i64_w, i32_w]
    rfl
   refine pure_ (i := 1) (N := (some 69)) (v := ?_) (a' := ?_) #[true, true, false, false, false, false, false, false, false, false, false, false, false, false, false, false, false, false, false, false, false] rfl rfl (any_of HT_.out (by kernel_rfl)) (fun _ _ _ h => h) (Or.inl ⟨by rfl, ?_⟩) ?_ ?_
   rotate_left
   ·intro w'
    go_simp
    with_reducible rfl
   rotate_left
   ·simp only [Act.put, List.setIfInBounds_toArray, List.set_cons_zero, List.set_cons_succ, i64_w, i32_w]
    rfl
   refine pure_ (i := 2) (N := (some 70)) (v := ?_) (a' := ?_) #[true, true, true, false, false, false, false, false, false, false, false, false, false, false, false, false, false, false, false, false, false] rfl rfl (any_of HT_.out (by kernel_rfl)) (fun _ _ _ h => h) (Or.inl ⟨by rfl, ?_⟩) ?_ ?_
   rotate_left
   ·intro w'
    go_simp
    with_reducible rfl
   rotate_left
   ·simp only [Act.put, List.setIfInBounds_toArray, List.set_cons_zero, List.set_cons_succ, i64_w, i32_w]
    rfl
   refine pure_ (i := 3) (N := (some 71)) (v := ?_) (a' := ?_) #[true, true, true, true, false, false, false, false, false, false, false, false, false, false, false, false, false, false, false, false, false] rfl rfl (any_of HT_.out (by kernel_rfl)) (fun _ _ _ h => h) (Or.inl ⟨by rfl, ?_⟩) ?_ ?_
   rotate_left
   ·intro w'
    go_simp
    with_reducible rfl
   rotate_left
   ·simp only [Act.put, List.setIfInBounds_toArray, List.set_cons_zero, List.set_cons_succ, i64_w, i32_w]
    rfl
   refine pure_ (i := 4) (N := (some 72)) (v := ?_) (a' := ?_) #[true, true, true, true, true, false, false, false, false, false, false, false, false, false, false, false, false, false, false, false, false] rfl rfl (any_of HT_.out (by kernel_rfl)) (fun _ _ _ h => h) (Or.inl ⟨by rfl, ?_⟩) ?_ ?_
   rotate_left
   ·intro w'
    go_simp
    with_reducible rfl
   rotate_left
   ·simp only [Act.put, List.setIfInBounds_toArray, List.set_cons_zero, List.set_cons_succ, i64_w, i32_w]
    rfl
   refine pure_ (i := 5) (N := (some 73)) (v := ?_) (a' := ?_) #[true, true, true, true, true, true, false, false, false, false, false, false, false, false, false, false, false, false, false, false, false] rfl rfl (any_of HT_.out (by kernel_rfl)) (fun _ _ _ h => h) (Or.inl ⟨by rfl, ?_⟩) ?_ ?_
   rotate_left
   ·intro w'
    go_simp
    with_reducible rfl
   rotate_left
   ·simp only [Act.put, List.setIfInBounds_toArray, List.set_cons_zero, List.set_cons_succ, i64_w, i32_w]
    rfl
   refine pure_ (i := 6) (N := (some 74)) (v := ?_) (a' := ?_) #[true, true, true, true, true, true, true, false, false, false, false, false, false, false, false, false, false, false, false, false, false] rfl rfl (any_of HT_.out (by kernel_rfl)) (fun _ _ _ h => h) (Or.inl ⟨by rfl, ?_⟩) ?_ ?_
   rotate_left
   ·intro w'
    go_simp
    with_reducible rfl
   rotate_left
   ·simp only [Act.put, List.setIfInBounds_toArray, List.set_cons_zero, List.set_cons_succ, i64_w, i32_w]
    rfl
   refine pure_ (i := 7) (N := (some 75)) (v := ?_) (a' := ?_) #[true, true, true, true, true, true, true, true, false, false, false, false, false, false, false, false, false, false, false, false, false] rfl rfl (any_of HT_.out (by kernel_rfl)) (fun _ _ _ h => h) (Or.inl ⟨by rfl, ?_⟩) ?_ ?_
   rotate_left
   ·intro w'
    go_simp
    with_reducible rfl
   rotate_left
   ·simp only [Act.put, List.setIfInBounds_toArray, List.set_cons_zero, List.set_cons_succ, i64_w, i32_w]
    rfl
   refine pure_ (i := 8) (N := (some 76)) (v := ?_) (a' := ?_) #[true, true, true, true, true, true, true, true, true, false, false, false, false, false, false, false, false, false, false, false, false] rfl rfl (any_of HT_.out (by kernel_rfl)) (fun _ _ _ h => h) (Or.inl ⟨by rfl, ?_⟩) ?_ ?_
   rotate_left
   ·intro w'
    go_simp
    with_reducible rfl
   rotate_left
   ·simp only [Act.put, List.setIfInBounds_toArray, List.set_cons_zero, List.set_cons_succ, i64_w, i32_w]
    rfl
   refine pure_ (i := 9) (N := (some 77)) (v := ?_) (a' := ?_) #[true, true, true, true, true, true, true, true, true, true, false, false, false, false, false, false, false, false, false, false, false] rfl rfl (any_of HT_.out (by kernel_rfl)) (fun _ _ _ h => h) (Or.inl ⟨by rfl, ?_⟩) ?_ ?_
   rotate_left
   ·intro w'
    go_simp
    with_reducible rfl
   rotate_left
   ·simp only [Act.put, List.setIfInBounds_toArray, List.set_cons_zero, List.set_cons_succ, i64_w, i32_w]
    rfl
   refine pure_ (i := 10) (N := (some 78)) (v := ?_) (a' := ?_) #[true, true, true, true, true, true, true, true, true, true, true, false, false, false, false, false, false, false, false, false, false] rfl rfl (any_of HT_.out (by kernel_rfl)) (fun _ _ _ h => h) (Or.inl ⟨by rfl, ?_⟩) ?_ ?_
   rotate_left
   ·intro w'
    go_simp
    with_reducible rfl
   rotate_left
   ·simp only [Act.put, List.setIfInBounds_toArray, List.set_cons_zero, List.set_cons_succ, i64_w, i32_w]
    rfl
   refine pure_ (i := 11) (N := (some 79)) (v := ?_) (a' := ?_) #[true, true, true, true, true, true, true, true, true, true, true, true, false, false, false, false, false, false, false, false, false] rfl rfl (any_of HT_.out (by kernel_rfl)) (fun _ _ _ h => h) (Or.inl ⟨by rfl, ?_⟩) ?_ ?_
   rotate_left
   ·intro w'
    go_simp
    with_reducible rfl
   rotate_left
   ·simp only [Act.put, List.setIfInBounds_toArray, List.set_cons_zero, List.set_cons_succ, i64_w, i32_w]
    rfl
   refine take_ (i := 12) (N := (some 80)) (v := ?_) (a' := ?_) #[true, true, true, true, true, true, true, true, true, true, true, true, true, false, false, false, false, false, false, false, false] rfl rfl (take_ofW HT_.out HW_.out (by kernel_rfl)) (fun _ _ _ h => h) (Or.inl ⟨by rfl, ?_⟩) hHeld ?_ ?_
   rotate_left
   ·rintro w' ⟨s0, s1, s2, s3, s4, s5, s6, s7⟩
    go_simp
    with_reducible rfl
   rotate_left
   ·simp only [Act.put, List.setIfInBounds_toArray, List.set_cons_zero, List.set_cons_succ, i64_w, i32_w]
    rfl
   refine pure_ (i := 14) (N := (some 82)) (v := ?_) (a' := ?_) #[true, true, true, true, true, true, true, true, true, true, true, true, true, false, true, false, false, false, false, false, false] rfl rfl (any_of HT_.out (by kernel_rfl)) (fun _ _ _ h => h) (Or.inl ⟨by rfl, ?_⟩) ?_ ?_
   rotate_left
   ·intro w'
    go_simp
    with_reducible rfl
   rotate_left
   ·simp only [Act.put, List.setIfInBounds_toArray, List.set_cons_zero, List.set_cons_succ, i64_w, i32_w]
    rfl
   refine pure_ (i := 15) (N := (some 83)) (v := ?_) (a' := ?_) #[true, true, true, true, true, true, true, true, true, true, true, true, true, false, true, true, false, false, false, false, false] rfl rfl (any_of HT_.out (by kernel_rfl)) (fun _ _ _ h => h) (Or.inl ⟨by rfl, ?_⟩) ?_ ?_
   rotate_left
   ·intro w'
    go_simp
    with_reducible rfl
   rotate_left
   ·simp only [Act.put, List.setIfInBounds_toArray, List.set_cons_zero, List.set_cons_succ, i64_w, i32_w]
    rfl
   refine pure_ (i := 16) (N := (some 84)) (v := ?_) (a' := ?_) #[true, true, true, true, true, true, true, true, true, true, true, true, true, false, true, true, true, false, false, false, false] rfl rfl (any_of HT_.out (by kernel_rfl)) (fun _ _ _ h => h) (Or.inl ⟨by rfl, ?_⟩) ?_ ?_
   rotate_left
   ·intro w'
    go_simp
    with_reducible rfl
   rotate_left
   ·simp only [Act.put, List.setIfInBounds_toArray, List.set_cons_zero, List.set_cons_succ, i64_w, i32_w]
    rfl
   refine take_ (i := 17) (N := (some 85)) (v := ?_) (a' := ?_) #[true, true, true, true, true, true, true, true, true, true, true, true, true, false, true, true, true, true, false, false, false] rfl rfl (take_ofW HT_.out HW_.out (by kernel_rfl)) (fun _ _ _ h => h) (Or.inl ⟨by rfl, ?_⟩) hHeld ?_ ?_
   rotate_left
   ·rintro w' ⟨s0, s1, s2, s3, s4, s5, s6, s7⟩
    go_simp
    with_reducible rfl
   rotate_left
   ·simp only [Act.put, List.setIfInBounds_toArray, List.set_cons_zero, List.set_cons_succ, i64_w, i32_w]
    rfl
   refine one_ (i := 13) (N := (some 81)) #[true, true, true, true, true, true, true, true, true, true, true, true, true, true, true, true, true, true, false, false, false] rfl rfl (one_of HT_.out (by kernel_rfl)) (by decide) (fun K hK => ?_)
   refine goes_ Try.func21 (by kernel_rfl) rfl #[.agg #[.int .i64 x.f0, .int .u8 x.f1, .int .i64 x.f2, .string x.f3, .string x.f4, .int .i64 x.f5, .int .i64 x.f6, .int .u8 x.f7]] (by rfl) rfl rfl (by (try simp only [List.map_toArray, List.map_cons, List.map_nil]); first | done | rfl) ?_
   refine (account_right_any x.f0 x.f1 x.f2 x.f3 x.f4 x.f5 x.f6 x.f7 w5).mono ?_
   rintro e w6 ⟨rfl, bq⟩
   refine ⟨_, rfl, ?_⟩
   have HBn : Hd (Below w.heap.size w w6) := hd (below_then HB5.out HB5.out.size bq)
   have HWn := hd (Kd.R_below HW5.out bq)
   have HSn := hd (HS5.out.below bq)
   refine hK.out _ _ ⟨pw_cell_below bq s0, pw_cell_below bq s1, pw_cell_below bq s2, pw_cell_below bq s3, pw_cell_below bq s4, pw_cell_below bq s5, pw_cell_below bq s6, pw_cell_below bq s7⟩ (fun hHeld => ?_)
   clear hK K bq HB5 HW5 HS5
   have HB6 := HBn
   have HW6 := HWn
   have HS6 := HSn
   clear HBn HWn HSn
   refine norm_ (a' := ?_) ?_ ?_
   rotate_left
   ·show Act.put _ (some 81) _ = _
    simp only [Act.put, List.setIfInBounds_toArray, List.set_cons_zero, List.set_cons_succ, i64_w, i32_w]
    rfl
   obtain ⟨s0, s1, s2, s3, s4, s5, s6, s7⟩ := hHeld
   have hHeld := And.intro s0 (And.intro s1 (And.intro s2 (And.intro s3 (And.intro s4 (And.intro s5 (And.intro s6 s7))))))
   refine one_ (i := 18) (N := (some 86)) #[true, true, true, true, true, true, true, true, true, true, true, true, true, true, true, true, true, true, true, false, false] rfl rfl (one_of HT_.out (by kernel_rfl)) (by decide) (fun K hK => ?_)
   refine goes_ Try.func31 (by kernel_rfl) rfl #[.agg #[.int .i64 x.f0, .int .u8 x.f1, .int .i64 x.f2, .string x.f3, .string x.f4, .int .i64 x.f5, .int .i64 x.f6, .int .u8 x.f7]] (by rfl) rfl rfl (by (try simp only [List.map_toArray, List.map_cons, List.map_nil]); first | done | rfl) ?_
   refine (musterref27_Right.calls 2 x.f0 x.f1 x.f2 x.f3 x.f4 x.f5 x.f6 x.f7 _ w6 (ref_right _ _ _ _ _ _ _ _ 2 (Nat.le_refl _))).mono ?_
   rintro e w9 ⟨rfl, bq⟩
   refine ⟨_, rfl, ?_⟩
   have HBn : Hd (Below w.heap.size w w9) := hd (below_then HB6.out HB6.out.size bq)
   have HWn := hd (Kd.R_below HW6.out bq)
   have HSn := hd (HS6.out.below bq)
   refine hK.out _ _ ⟨pw_cell_below bq s0, pw_cell_below bq s1, pw_cell_below bq s2, pw_cell_below bq s3, pw_cell_below bq s4, pw_cell_below bq s5, pw_cell_below bq s6, pw_cell_below bq s7⟩ (fun hHeld => ?_)
   clear hK K bq HB6 HW6 HS6
   have HB9 := HBn
   have HW9 := HWn
   have HS9 := HSn
   clear HBn HWn HSn
   refine norm_ (a' := ?_) ?_ ?_
   rotate_left
   ·show Act.put _ (some 86) _ = _
    simp only [Act.put, List.setIfInBounds_toArray, List.set_cons_zero, List.set_cons_succ, i64_w, i32_w]
    rfl
   obtain ⟨rb, hrb⟩ : ∃ b, rightP x.f0 x.f1 x.f2 x.f3 x.f4 x.f5 x.f6 x.f7 = b := ⟨_, rfl⟩
   rw [hrb]
   clear hrb
   refine pure_ (i := 19) (N := (some 87)) (v := ?_) (a' := ?_) #[true, true, true, true, true, true, true, true, true, true, true, true, true, true, true, true, true, true, true, true, false] rfl rfl (any_of HT_.out (by kernel_rfl)) (fun _ _ _ h => h) (Or.inl ⟨by rfl, ?_⟩) ?_ ?_
   rotate_left
   ·intro w'
    go_simp
    with_reducible rfl
   rotate_left
   ·simp only [Act.put, List.setIfInBounds_toArray, List.set_cons_zero, List.set_cons_succ, i64_w, i32_w]
    rfl
   refine pure_ (i := 20) (N := (some 88)) (v := ?_) (a' := ?_) #[true, true, true, true, true, true, true, true, true, true, true, true, true, true, true, true, true, true, true, true, true] rfl rfl (any_of HT_.out (by kernel_rfl)) (fun _ _ _ h => h) (Or.inl ⟨by rfl, ?_⟩) ?_ ?_
   rotate_left
   ·intro w'
    go_simp
    with_reducible rfl
   rotate_left
   ·simp only [Act.put, List.setIfInBounds_toArray, List.set_cons_zero, List.set_cons_succ, i64_w, i32_w]
    rfl
   refine done_ (done_of HT_.out (by kernel_rfl)) ?_
   clear HT_ HW_
   go_wp2
   go_roundw
   case rel =>
    obtain ⟨p1, p2, p3⟩ := playU_ok (x := x) HOK.out HKN.out
    refine ⟨i + 1, playU u x, by omega, by omega, by go_num, by omega, hd p1, hd p2, _, _, hd ?_, hd ?_, HS9, HW9, HB9⟩
    ·rintro k ⟨h1, h2⟩ h3
     rcases h3 with h3 | h3
     ·rcases h1 with h1 | h1
      ·exact HAP.out k h1 h3.1
      ·have := h3.2; omega
     ·omega
    ·rintro k ⟨h1, h2⟩
     rcases h1 with h1 | h1
     ·exact HBA.out k h1
     ·exact Nat.le_trans HB.out.size h1
   case measure => simp [intOf]; omega
  ·have hu60 : u.length ≤ 60 := by omega
   by_cases hlt : i < l.length
   ·have hi1 : (i : Int) < (l.length : Int) := by omega
    have hi2 : ¬ (i : Int) < 60 := by omega
    have hids := idsP_len (u.map pastS)
    rw [List.length_map] at hids
    have hids4 : (idsP (u.map pastS)).length ≤ 4096 := by omega
    obtain ⟨A3, c3, rfl, hc3, hC3⟩ := Kd.R_reads HW.out
    have HCU := hd hC3
    clear hC3 HW
    obtain ⟨P, hP⟩ : ∃ P, u.map pastS = P := ⟨_, rfl⟩
    obtain ⟨ids, hidsE⟩ : ∃ ids, idsP P = ids := ⟨_, rfl⟩
    obtain ⟨t1, t2, t3, ht⟩ : ∃ t1 t2 t3, usedT P ids name fr tt = (t1, t2, t3) := ⟨_, _, _, rfl⟩
    obtain ⟨g1, g2, g3, hg⟩ : ∃ t1 t2 t3, rollR P ids name fr tt 3600 = (t1, t2, t3) := ⟨_, _, _, rfl⟩
    obtain ⟨d1, d2, d3, hdd⟩ : ∃ t1 t2 t3, rollR P ids name fr tt 86400 = (t1, t2, t3) := ⟨_, _, _, rfl⟩
    obtain ⟨rl, hrl⟩ : ∃ r, runsL P name ids = r := ⟨_, rfl⟩
    have hgl : g1.length ≤ 1000 := by have h_ := rollR_len P ids name fr tt 3600; rw [hg] at h_; exact h_
    have hdl : d1.length ≤ 1000 := by have h_ := rollR_len P ids name fr tt 86400; rw [hdd] at h_; exact h_
    have hrll : rl.length ≤ 4096 := by have h_ := runsL_len P name ids; rw [hrl] at h_; rw [hP, hidsE] at hids4; omega
    obtain ⟨k1, hk1⟩ := Ev.rounds (ref_used_ev u (by omega) HOK.out name fr tt)
    obtain ⟨k2, hk2⟩ := Ev.rounds (ref_rollup u (by omega) HOK.out name fr tt 3600 (.inl rfl))
    obtain ⟨k3, hk3⟩ := Ev.rounds (ref_rollup u (by omega) HOK.out name fr tt 86400 (.inr rfl))
    obtain ⟨k4, hk4⟩ := Ev.rounds (ref_runs u (by omega) HOK.out name)
    rw [hP, hidsE] at hk1 hk2 hk3 hk4 hids4
    have hk1' : musterref27_Used.f k1 u name fr tt = some (usedT P ids name fr tt) := hk1
    rw [ht] at hk1'
    rw [hg] at hk2
    rw [hdd] at hk3
    rw [hrl] at hk4
    have K1 := hd hk1'
    have K2 := hd hk2
    have K3 := hd hk3
    have K4 := hd hk4
    rw [hP, hidsE] at HS
    rw [hP] at HKN
    have HT := hd ht
    have HG := hd hg
    have HD := hd hdd
    have HRL := hd hrl
    clear hk1 hk1' hk2 hk3 hk4 ht hg hdd hrl hids hP hidsE HOK HAP HBA
    go_wp2_with fail
    refine (copy_st HS.out HKN.out hids4).mono ?_
    rintro e w2 ⟨s2, Q, rfl, hs2, hS2, hq, b2⟩
    have HB2 : Hd (Below w.heap.size w w2) := hd (below_then HB.out HB.out.size b2)
    have HCU2 := hd (Kd.C_below HCU.out b2)
    have HS2 := hd (HS.out.below b2)
    have HSC := hd hS2
    have HQ := hd (SameP.get HKN.out hq)
    clear b2 hS2 hq HCU HS HB
    go_wp2
    have hb3 := below_alloc (Below.refl _ w2) (.cells #[.pointer (some ⟨s, 0, none⟩), .pointer (some ⟨s2, 0, none⟩)] 29)
    have HA := hd (blk_new w2 (.cells #[.pointer (some ⟨s, 0, none⟩), .pointer (some ⟨s2, 0, none⟩)] 29))
    have HB3 : Hd (Below w.heap.size w (w2.alloc (.cells #[.pointer (some ⟨s, 0, none⟩), .pointer (some ⟨s2, 0, none⟩)] 29))) := hd (below_alloc HB2.out _)
    have HCU3 := hd (Kd.C_below HCU2.out hb3)
    have HS3 := hd (HS2.out.below hb3)
    have HSC3 := hd (HSC.out.below hb3)
    clear hb3 HB2 HCU2 HS2 HSC
    generalize w2.heap.size = ab at HA ⊢
    generalize w2.alloc _ = w3 at HA HB3 HCU3 HS3 HSC3 ⊢
    go_loopw [94] (fun iv wq => ∃ j : Nat, j ≤ 2 ∧ iv = .int .i64 (j : Int) ∧ Hd (Below w3.heap.size w3 wq)) (fun iv _ => 2 - (intOf iv).toNat)
    case atStart => exact ⟨0, by omega, rfl, hd (Below.refl _ _)⟩
    case round =>
     obtain ⟨j, hj, rfl, HBq⟩ := hrel
     have n0 := (blk_cell (blk_below HA.out HBq.out) 0).trans rfl
     have n1 := (blk_cell (blk_below HA.out HBq.out) 1).trans rfl
     by_cases h2 : j = 2
     ·subst h2
      go_wp2_with fail
      refine (awake_walk wr).mono ?_
      rintro e w4 ⟨rfl, b4⟩
      go_wp2
      go_ret
      exact ⟨rfl, below_then HB3.out HB3.out.size (below_then HBq.out HBq.out.size b4)⟩
     ·by_cases h0 : j = 0
      ·subst h0
       have HX0 := hd (HS3.out.below HBq.out)
       have HU0 := hd (Kd.C_below HCU3.out HBq.out)
       go_wp2_with fail
       clear n0 n1
       refine (used_st HX0.out hids4 5000 name fr tt _ _ (total_sum _ ids name fr tt hids4)).mono ?_
       rintro e v1 ⟨rfl, b⟩
       rw [usedR_eq, HT.out]
       have HX1 := hd (HX0.out.below b)
       have HU1 := hd (Kd.C_below HU0.out b)
       have HB1 : Hd (Below w3.heap.size w3 v1) := hd (below_then HBq.out HBq.out.size b)
       clear b HX0 HU0
       go_wp2_with fail
       refine (musterref27_Used.calls k1 A3 c3 u name fr tt t1 t2 t3 v1 HU1.out hc3 K1.out).mono ?_
       rintro e v2 ⟨rfl, b⟩
       have HX2 := hd (HX1.out.below b)
       have HU2 := hd (Kd.C_below HU1.out b)
       have HB2 : Hd (Below w3.heap.size w3 v2) := hd (below_then HB1.out HB1.out.size b)
       clear b HX1 HU1 HB1
       go_wp2_with fail
       refine (hours_st HX2.out hids4 name fr tt).mono ?_
       rintro e v3 ⟨vh, rfl, hR, b⟩
       rw [HG.out] at hR ⊢
       obtain ⟨Ah, ch, rfl, hch, hCh⟩ := Kd.R_reads hR
       have HX3 := hd (HX2.out.below b)
       have HU3 := hd (Kd.C_below HU2.out b)
       have HB3 : Hd (Below w3.heap.size w3 v3) := hd (below_then HB2.out HB2.out.size b)
       have HH3 := hd hCh
       clear b HX2 HU2 HB2 hR hCh
       go_wp2_with fail
       refine (musterref27_Rollup.calls k2 A3 c3 u name fr tt 3600 g1 g2 g3 v3 HU3.out hc3 K2.out).mono ?_
       rintro e v4 ⟨vg, rfl, hR, b⟩
       obtain ⟨Ag, cg, rfl, hcg, hCg⟩ := Kd.R_reads hR
       have HX4 := hd (HX3.out.below b)
       have HU4 := hd (Kd.C_below HU3.out b)
       have HB4 : Hd (Below w3.heap.size w3 v4) := hd (below_then HB3.out HB3.out.size b)
       have HH4 := hd (Kd.C_below HH3.out b)
       have HG4 := hd hCg
       clear b HX3 HU3 HB3 HH3 hR hCg
       go_wp2_with fail
       refine (days_st HX4.out hids4 name fr tt).mono ?_
       rintro e v5 ⟨vd, rfl, hR, b⟩
       rw [HD.out] at hR ⊢
       obtain ⟨Ad, cd, rfl, hcd, hCd⟩ := Kd.R_reads hR
       have HX5 := hd (HX4.out.below b)
       have HU5 := hd (Kd.C_below HU4.out b)
       have HB5 : Hd (Below w3.heap.size w3 v5) := hd (below_then HB4.out HB4.out.size b)
       have HH5 := hd (Kd.C_below HH4.out b)
       have HG5 := hd (Kd.C_below HG4.out b)
       have HD5 := hd hCd
       clear b HX4 HU4 HB4 HH4 HG4 hR hCd
       go_wp2_with fail
       refine (musterref27_Rollup.calls k3 A3 c3 u name fr tt 86400 d1 d2 d3 v5 HU5.out hc3 K3.out).mono ?_
       rintro e v6 ⟨ve, rfl, hR, b⟩
       obtain ⟨Ae, ce, rfl, hce, hCe⟩ := Kd.R_reads hR
       have HX6 := hd (HX5.out.below b)
       have HU6 := hd (Kd.C_below HU5.out b)
       have HB6 : Hd (Below w3.heap.size w3 v6) := hd (below_then HB5.out HB5.out.size b)
       have HH6 := hd (Kd.C_below HH5.out b)
       have HG6 := hd (Kd.C_below HG5.out b)
       have HD6 := hd (Kd.C_below HD5.out b)
       have HE6 := hd hCe
       clear b HX5 HU5 HB5 HH5 HG5 HD5 hR hCe
       go_wp2_with fail
       refine (musterlow_SameNumbers.calls 1001 Ah ch g1 Ag cg g1 true v6 HH6.out hch HG6.out hcg (same_spec _ (by omega) 1001 (by omega))).mono ?_
       rintro e v7 ⟨rfl, nd, rfl⟩
       have HX7 := hd (HX6.out.drewN nd)
       have HU7 := hd (Kd.C_drewN HU6.out nd)
       have HB7 : Hd (Below w3.heap.size w3 (v6.drewN nd)) := hd (pw_below_drewN HB6.out nd)
       have HD7 := hd (Kd.C_drewN HD6.out nd)
       have HE7 := hd (Kd.C_drewN HE6.out nd)
       clear HX6 HU6 HB6 HH6 HG6 HD6 HE6
       generalize v6.drewN nd = v7 at HX7 HU7 HB7 HD7 HE7 ⊢
       go_wp2_with fail
       refine (musterlow_SameNumbers.calls 1001 Ad cd d1 Ae ce d1 true v7 HD7.out hcd HE7.out hce (same_spec _ (by omega) 1001 (by omega))).mono ?_
       rintro e v8 ⟨rfl, nd8, rfl⟩
       have HX8 := hd (HX7.out.drewN nd8)
       have HU8 := hd (Kd.C_drewN HU7.out nd8)
       have HB8 : Hd (Below w3.heap.size w3 (v7.drewN nd8)) := hd (pw_below_drewN HB7.out nd8)
       clear HX7 HU7 HB7 HD7 HE7
       generalize v7.drewN nd8 = v8 at HX8 HU8 HB8 ⊢
       go_wp2_with fail
       refine (runs_st HX8.out hids4 name).mono ?_
       rintro e v9 ⟨vr, rfl, hR, b⟩
       rw [HRL.out] at hR
       obtain ⟨Ar, cr, rfl, hcr, hCr⟩ := Kd.R_reads hR
       have HU9 := hd (Kd.C_below HU8.out b)
       have HB9 : Hd (Below w3.heap.size w3 v9) := hd (below_then HB8.out HB8.out.size b)
       have HR9 := hd hCr
       clear b HX8 HU8 HB8 hR hCr
       go_wp2_with fail
       refine (musterref27_Runs.calls k4 A3 c3 u name rl v9 HU9.out hc3 K4.out).mono ?_
       rintro e v10 ⟨vs, rfl, hR, b⟩
       obtain ⟨Az, cz, rfl, hcz, hCz⟩ := Kd.R_reads hR
       have HB10 : Hd (Below w3.heap.size w3 v10) := hd (below_then HB9.out HB9.out.size b)
       have HR10 := hd (Kd.C_below HR9.out b)
       have HZ10 := hd hCz
       clear b HU9 HB9 HR9 hR hCz
       go_wp2_with fail
       refine (musterlaw27_sameRuns.calls 5000 Ar cr rl Az cz rl true v10 HR10.out hcr HZ10.out hcz (sr_spec _ (by omega) 5000 (by omega))).mono ?_
       rintro e v11 ⟨rfl, nd11, rfl⟩
       have HB11 : Hd (Below w3.heap.size w3 (v10.drewN nd11)) := hd (pw_below_drewN HB10.out nd11)
       go_wp2
       go_roundw
       case rel => exact ⟨1, by omega, by go_num, HB11⟩
       case measure => simp [intOf]
      ·obtain rfl : j = 1 := by omega
       have HX0 := hd (HSC3.out.below HBq.out)
       have HU0 := hd (Kd.C_below HCU3.out HBq.out)
       go_wp2_with fail
       clear n0 n1
       refine (used_st HX0.out hids4 5000 name fr tt _ _ (total_sum _ ids name fr tt hids4)).mono ?_
       rintro e v1 ⟨rfl, b⟩
       rw [usedR_eq, usedT_same HQ.out, HT.out]
       have HX1 := hd (HX0.out.below b)
       have HU1 := hd (Kd.C_below HU0.out b)
       have HB1 : Hd (Below w3.heap.size w3 v1) := hd (below_then HBq.out HBq.out.size b)
       clear b HX0 HU0
       go_wp2_with fail
       refine (musterref27_Used.calls k1 A3 c3 u name fr tt t1 t2 t3 v1 HU1.out hc3 K1.out).mono ?_
       rintro e v2 ⟨rfl, b⟩
       have HX2 := hd (HX1.out.below b)
       have HU2 := hd (Kd.C_below HU1.out b)
       have HB2 : Hd (Below w3.heap.size w3 v2) := hd (below_then HB1.out HB1.out.size b)
       clear b HX1 HU1 HB1
       go_wp2_with fail
       refine (hours_st HX2.out hids4 name fr tt).mono ?_
       rintro e v3 ⟨vh, rfl, hR, b⟩
       rw [rollR_same HQ.out, HG.out] at hR ⊢
       obtain ⟨Ah, ch, rfl, hch, hCh⟩ := Kd.R_reads hR
       have HX3 := hd (HX2.out.below b)
       have HU3 := hd (Kd.C_below HU2.out b)
       have HB3 : Hd (Below w3.heap.size w3 v3) := hd (below_then HB2.out HB2.out.size b)
       have HH3 := hd hCh
       clear b HX2 HU2 HB2 hR hCh
       go_wp2_with fail
       refine (musterref27_Rollup.calls k2 A3 c3 u name fr tt 3600 g1 g2 g3 v3 HU3.out hc3 K2.out).mono ?_
       rintro e v4 ⟨vg, rfl, hR, b⟩
       obtain ⟨Ag, cg, rfl, hcg, hCg⟩ := Kd.R_reads hR
       have HX4 := hd (HX3.out.below b)
       have HU4 := hd (Kd.C_below HU3.out b)
       have HB4 : Hd (Below w3.heap.size w3 v4) := hd (below_then HB3.out HB3.out.size b)
       have HH4 := hd (Kd.C_below HH3.out b)
       have HG4 := hd hCg
       clear b HX3 HU3 HB3 HH3 hR hCg
       go_wp2_with fail
       refine (days_st HX4.out hids4 name fr tt).mono ?_
       rintro e v5 ⟨vd, rfl, hR, b⟩
       rw [rollR_same HQ.out, HD.out] at hR ⊢
       obtain ⟨Ad, cd, rfl, hcd, hCd⟩ := Kd.R_reads hR
       have HX5 := hd (HX4.out.below b)
       have HU5 := hd (Kd.C_below HU4.out b)
       have HB5 : Hd (Below w3.heap.size w3 v5) := hd (below_then HB4.out HB4.out.size b)
       have HH5 := hd (Kd.C_below HH4.out b)
       have HG5 := hd (Kd.C_below HG4.out b)
       have HD5 := hd hCd
       clear b HX4 HU4 HB4 HH4 HG4 hR hCd
       go_wp2_with fail
       refine (musterref27_Rollup.calls k3 A3 c3 u name fr tt 86400 d1 d2 d3 v5 HU5.out hc3 K3.out).mono ?_
       rintro e v6 ⟨ve, rfl, hR, b⟩
       obtain ⟨Ae, ce, rfl, hce, hCe⟩ := Kd.R_reads hR
       have HX6 := hd (HX5.out.below b)
       have HU6 := hd (Kd.C_below HU5.out b)
       have HB6 : Hd (Below w3.heap.size w3 v6) := hd (below_then HB5.out HB5.out.size b)
       have HH6 := hd (Kd.C_below HH5.out b)
       have HG6 := hd (Kd.C_below HG5.out b)
       have HD6 := hd (Kd.C_below HD5.out b)
       have HE6 := hd hCe
       clear b HX5 HU5 HB5 HH5 HG5 HD5 hR hCe
       go_wp2_with fail
       refine (musterlow_SameNumbers.calls 1001 Ah ch g1 Ag cg g1 true v6 HH6.out hch HG6.out hcg (same_spec _ (by omega) 1001 (by omega))).mono ?_
       rintro e v7 ⟨rfl, nd, rfl⟩
       have HX7 := hd (HX6.out.drewN nd)
       have HU7 := hd (Kd.C_drewN HU6.out nd)
       have HB7 : Hd (Below w3.heap.size w3 (v6.drewN nd)) := hd (pw_below_drewN HB6.out nd)
       have HD7 := hd (Kd.C_drewN HD6.out nd)
       have HE7 := hd (Kd.C_drewN HE6.out nd)
       clear HX6 HU6 HB6 HH6 HG6 HD6 HE6
       generalize v6.drewN nd = v7 at HX7 HU7 HB7 HD7 HE7 ⊢
       go_wp2_with fail
       refine (musterlow_SameNumbers.calls 1001 Ad cd d1 Ae ce d1 true v7 HD7.out hcd HE7.out hce (same_spec _ (by omega) 1001 (by omega))).mono ?_
       rintro e v8 ⟨rfl, nd8, rfl⟩
       have HX8 := hd (HX7.out.drewN nd8)
       have HU8 := hd (Kd.C_drewN HU7.out nd8)
       have HB8 : Hd (Below w3.heap.size w3 (v7.drewN nd8)) := hd (pw_below_drewN HB7.out nd8)
       clear HX7 HU7 HB7 HD7 HE7
       generalize v7.drewN nd8 = v8 at HX8 HU8 HB8 ⊢
       go_wp2_with fail
       refine (runs_st HX8.out hids4 name).mono ?_
       rintro e v9 ⟨vr, rfl, hR, b⟩
       rw [runsL_same HQ.out, HRL.out] at hR
       obtain ⟨Ar, cr, rfl, hcr, hCr⟩ := Kd.R_reads hR
       have HU9 := hd (Kd.C_below HU8.out b)
       have HB9 : Hd (Below w3.heap.size w3 v9) := hd (below_then HB8.out HB8.out.size b)
       have HR9 := hd hCr
       clear b HX8 HU8 HB8 hR hCr
       go_wp2_with fail
       refine (musterref27_Runs.calls k4 A3 c3 u name rl v9 HU9.out hc3 K4.out).mono ?_
       rintro e v10 ⟨vs, rfl, hR, b⟩
       obtain ⟨Az, cz, rfl, hcz, hCz⟩ := Kd.R_reads hR
       have HB10 : Hd (Below w3.heap.size w3 v10) := hd (below_then HB9.out HB9.out.size b)
       have HR10 := hd (Kd.C_below HR9.out b)
       have HZ10 := hd hCz
       clear b HU9 HB9 HR9 hR hCz
       go_wp2_with fail
       refine (musterlaw27_sameRuns.calls 5000 Ar cr rl Az cz rl true v10 HR10.out hcr HZ10.out hcz (sr_spec _ (by omega) 5000 (by omega))).mono ?_
       rintro e v11 ⟨rfl, nd11, rfl⟩
       have HB11 : Hd (Below w3.heap.size w3 (v10.drewN nd11)) := hd (pw_below_drewN HB10.out nd11)
       go_wp2
       go_roundw
       case rel => exact ⟨2, by omega, by go_num, HB11⟩
       case measure => simp [intOf]
   ·have hi1 : ¬ (i : Int) < (l.length : Int) := by omega
    have hids := idsP_len (u.map pastS)
    rw [List.length_map] at hids
    have hids4 : (idsP (u.map pastS)).length ≤ 4096 := by omega
    obtain ⟨A3, c3, rfl, hc3, hC3⟩ := Kd.R_reads HW.out
    have HCU := hd hC3
    clear hC3 HW
    obtain ⟨P, hP⟩ : ∃ P, u.map pastS = P := ⟨_, rfl⟩
    obtain ⟨ids, hidsE⟩ : ∃ ids, idsP P = ids := ⟨_, rfl⟩
    obtain ⟨t1, t2, t3, ht⟩ : ∃ t1 t2 t3, usedT P ids name fr tt = (t1, t2, t3) := ⟨_, _, _, rfl⟩
    obtain ⟨g1, g2, g3, hg⟩ : ∃ t1 t2 t3, rollR P ids name fr tt 3600 = (t1, t2, t3) := ⟨_, _, _, rfl⟩
    obtain ⟨d1, d2, d3, hdd⟩ : ∃ t1 t2 t3, rollR P ids name fr tt 86400 = (t1, t2, t3) := ⟨_, _, _, rfl⟩
    obtain ⟨rl, hrl⟩ : ∃ r, runsL P name ids = r := ⟨_, rfl⟩
    have hgl : g1.length ≤ 1000 := by have h_ := rollR_len P ids name fr tt 3600; rw [hg] at h_; exact h_
    have hdl : d1.length ≤ 1000 := by have h_ := rollR_len P ids name fr tt 86400; rw [hdd] at h_; exact h_
    have hrll : rl.length ≤ 4096 := by have h_ := runsL_len P name ids; rw [hrl] at h_; rw [hP, hidsE] at hids4; omega
    obtain ⟨k1, hk1⟩ := Ev.rounds (ref_used_ev u (by omega) HOK.out name fr tt)
    obtain ⟨k2, hk2⟩ := Ev.rounds (ref_rollup u (by omega) HOK.out name fr tt 3600 (.inl rfl))
    obtain ⟨k3, hk3⟩ := Ev.rounds (ref_rollup u (by omega) HOK.out name fr tt 86400 (.inr rfl))
    obtain ⟨k4, hk4⟩ := Ev.rounds (ref_runs u (by omega) HOK.out name)
    rw [hP, hidsE] at hk1 hk2 hk3 hk4 hids4
    have hk1' : musterref27_Used.f k1 u name fr tt = some (usedT P ids name fr tt) := hk1
    rw [ht] at hk1'
    rw [hg] at hk2
    rw [hdd] at hk3
    rw [hrl] at hk4
    have K1 := hd hk1'
    have K2 := hd hk2
    have K3 := hd hk3
    have K4 := hd hk4
    rw [hP, hidsE] at HS
    rw [hP] at HKN
    have HT := hd ht
    have HG := hd hg
    have HD := hd hdd
    have HRL := hd hrl
    clear hk1 hk1' hk2 hk3 hk4 ht hg hdd hrl hids hP hidsE HOK HAP HBA
    go_wp2_with fail
    refine (copy_st HS.out HKN.out hids4).mono ?_
    rintro e w2 ⟨s2, Q, rfl, hs2, hS2, hq, b2⟩
    have HB2 : Hd (Below w.heap.size w w2) := hd (below_then HB.out HB.out.size b2)
    have HCU2 := hd (Kd.C_below HCU.out b2)
    have HS2 := hd (HS.out.below b2)
    have HSC := hd hS2
    have HQ := hd (SameP.get HKN.out hq)
    clear b2 hS2 hq HCU HS HB
    go_wp2
    have hb3 := below_alloc (Below.refl _ w2) (.cells #[.pointer (some ⟨s, 0, none⟩), .pointer (some ⟨s2, 0, none⟩)] 29)
    have HA := hd (blk_new w2 (.cells #[.pointer (some ⟨s, 0, none⟩), .pointer (some ⟨s2, 0, none⟩)] 29))
    have HB3 : Hd (Below w.heap.size w (w2.alloc (.cells #[.pointer (some ⟨s, 0, none⟩), .pointer (some ⟨s2, 0, none⟩)] 29))) := hd (below_alloc HB2.out _)
    have HCU3 := hd (Kd.C_below HCU2.out hb3)
    have HS3 := hd (HS2.out.below hb3)
    have HSC3 := hd (HSC.out.below hb3)
    clear hb3 HB2 HCU2 HS2 HSC
    generalize w2.heap.size = ab at HA ⊢
    generalize w2.alloc _ = w3 at HA HB3 HCU3 HS3 HSC3 ⊢
    go_loopw [94] (fun iv wq => ∃ j : Nat, j ≤ 2 ∧ iv = .int .i64 (j : Int) ∧ Hd (Below w3.heap.size w3 wq)) (fun iv _ => 2 - (intOf iv).toNat)
    case atStart => exact ⟨0, by omega, rfl, hd (Below.refl _ _)⟩
    case round =>
     obtain ⟨j, hj, rfl, HBq⟩ := hrel
     have n0 := (blk_cell (blk_below HA.out HBq.out) 0).trans rfl
     have n1 := (blk_cell (blk_below HA.out HBq.out) 1).trans rfl
     by_cases h2 : j = 2
     ·subst h2
      go_wp2_with fail
      refine (awake_walk wr).mono ?_
      rintro e w4 ⟨rfl, b4⟩
      go_wp2
      go_ret
      exact ⟨rfl, below_then HB3.out HB3.out.size (below_then HBq.out HBq.out.size b4)⟩
     ·by_cases h0 : j = 0
      ·subst h0
       have HX0 := hd (HS3.out.below HBq.out)
       have HU0 := hd (Kd.C_below HCU3.out HBq.out)
       go_wp2_with fail
       clear n0 n1
       refine (used_st HX0.out hids4 5000 name fr tt _ _ (total_sum _ ids name fr tt hids4)).mono ?_
       rintro e v1 ⟨rfl, b⟩
       rw [usedR_eq, HT.out]
       have HX1 := hd (HX0.out.below b)
       have HU1 := hd (Kd.C_below HU0.out b)
       have HB1 : Hd (Below w3.heap.size w3 v1) := hd (below_then HBq.out HBq.out.size b)
       clear b HX0 HU0
       go_wp2_with fail
       refine (musterref27_Used.calls k1 A3 c3 u name fr tt t1 t2 t3 v1 HU1.out hc3 K1.out).mono ?_
       rintro e v2 ⟨rfl, b⟩
       have HX2 := hd (HX1.out.below b)
       have HU2 := hd (Kd.C_below HU1.out b)
       have HB2 : Hd (Below w3.heap.size w3 v2) := hd (below_then HB1.out HB1.out.size b)
       clear b HX1 HU1 HB1
       go_wp2_with fail
       refine (hours_st HX2.out hids4 name fr tt).mono ?_
       rintro e v3 ⟨vh, rfl, hR, b⟩
       rw [HG.out] at hR ⊢
       obtain ⟨Ah, ch, rfl, hch, hCh⟩ := Kd.R_reads hR
       have HX3 := hd (HX2.out.below b)
       have HU3 := hd (Kd.C_below HU2.out b)
       have HB3 : Hd (Below w3.heap.size w3 v3) := hd (below_then HB2.out HB2.out.size b)
       have HH3 := hd hCh
       clear b HX2 HU2 HB2 hR hCh
       go_wp2_with fail
       refine (musterref27_Rollup.calls k2 A3 c3 u name fr tt 3600 g1 g2 g3 v3 HU3.out hc3 K2.out).mono ?_
       rintro e v4 ⟨vg, rfl, hR, b⟩
       obtain ⟨Ag, cg, rfl, hcg, hCg⟩ := Kd.R_reads hR
       have HX4 := hd (HX3.out.below b)
       have HU4 := hd (Kd.C_below HU3.out b)
       have HB4 : Hd (Below w3.heap.size w3 v4) := hd (below_then HB3.out HB3.out.size b)
       have HH4 := hd (Kd.C_below HH3.out b)
       have HG4 := hd hCg
       clear b HX3 HU3 HB3 HH3 hR hCg
       go_wp2_with fail
       refine (days_st HX4.out hids4 name fr tt).mono ?_
       rintro e v5 ⟨vd, rfl, hR, b⟩
       rw [HD.out] at hR ⊢
       obtain ⟨Ad, cd, rfl, hcd, hCd⟩ := Kd.R_reads hR
       have HX5 := hd (HX4.out.below b)
       have HU5 := hd (Kd.C_below HU4.out b)
       have HB5 : Hd (Below w3.heap.size w3 v5) := hd (below_then HB4.out HB4.out.size b)
       have HH5 := hd (Kd.C_below HH4.out b)
       have HG5 := hd (Kd.C_below HG4.out b)
       have HD5 := hd hCd
       clear b HX4 HU4 HB4 HH4 HG4 hR hCd
       go_wp2_with fail
       refine (musterref27_Rollup.calls k3 A3 c3 u name fr tt 86400 d1 d2 d3 v5 HU5.out hc3 K3.out).mono ?_
       rintro e v6 ⟨ve, rfl, hR, b⟩
       obtain ⟨Ae, ce, rfl, hce, hCe⟩ := Kd.R_reads hR
       have HX6 := hd (HX5.out.below b)
       have HU6 := hd (Kd.C_below HU5.out b)
       have HB6 : Hd (Below w3.heap.size w3 v6) := hd (below_then HB5.out HB5.out.size b)
       have HH6 := hd (Kd.C_below HH5.out b)
       have HG6 := hd (Kd.C_below HG5.out b)
       have HD6 := hd (Kd.C_below HD5.out b)
       have HE6 := hd hCe
       clear b HX5 HU5 HB5 HH5 HG5 HD5 hR hCe
       go_wp2_with fail
       refine (musterlow_SameNumbers.calls 1001 Ah ch g1 Ag cg g1 true v6 HH6.out hch HG6.out hcg (same_spec _ (by omega) 1001 (by omega))).mono ?_
       rintro e v7 ⟨rfl, nd, rfl⟩
       have HX7 := hd (HX6.out.drewN nd)
       have HU7 := hd (Kd.C_drewN HU6.out nd)
       have HB7 : Hd (Below w3.heap.size w3 (v6.drewN nd)) := hd (pw_below_drewN HB6.out nd)
       have HD7 := hd (Kd.C_drewN HD6.out nd)
       have HE7 := hd (Kd.C_drewN HE6.out nd)
       clear HX6 HU6 HB6 HH6 HG6 HD6 HE6
       generalize v6.drewN nd = v7 at HX7 HU7 HB7 HD7 HE7 ⊢
       go_wp2_with fail
       refine (musterlow_SameNumbers.calls 1001 Ad cd d1 Ae ce d1 true v7 HD7.out hcd HE7.out hce (same_spec _ (by omega) 1001 (by omega))).mono ?_
       rintro e v8 ⟨rfl, nd8, rfl⟩
       have HX8 := hd (HX7.out.drewN nd8)
       have HU8 := hd (Kd.C_drewN HU7.out nd8)
       have HB8 : Hd (Below w3.heap.size w3 (v7.drewN nd8)) := hd (pw_below_drewN HB7.out nd8)
       clear HX7 HU7 HB7 HD7 HE7
       generalize v7.drewN nd8 = v8 at HX8 HU8 HB8 ⊢
       go_wp2_with fail
       refine (runs_st HX8.out hids4 name).mono ?_
       rintro e v9 ⟨vr, rfl, hR, b⟩
       rw [HRL.out] at hR
       obtain ⟨Ar, cr, rfl, hcr, hCr⟩ := Kd.R_reads hR
       have HU9 := hd (Kd.C_below HU8.out b)
       have HB9 : Hd (Below w3.heap.size w3 v9) := hd (below_then HB8.out HB8.out.size b)
       have HR9 := hd hCr
       clear b HX8 HU8 HB8 hR hCr
       go_wp2_with fail
       refine (musterref27_Runs.calls k4 A3 c3 u name rl v9 HU9.out hc3 K4.out).mono ?_
       rintro e v10 ⟨vs, rfl, hR, b⟩
       obtain ⟨Az, cz, rfl, hcz, hCz⟩ := Kd.R_reads hR
       have HB10 : Hd (Below w3.heap.size w3 v10) := hd (below_then HB9.out HB9.out.size b)
       have HR10 := hd (Kd.C_below HR9.out b)
       have HZ10 := hd hCz
       clear b HU9 HB9 HR9 hR hCz
       go_wp2_with fail
       refine (musterlaw27_sameRuns.calls 5000 Ar cr rl Az cz rl true v10 HR10.out hcr HZ10.out hcz (sr_spec _ (by omega) 5000 (by omega))).mono ?_
       rintro e v11 ⟨rfl, nd11, rfl⟩
       have HB11 : Hd (Below w3.heap.size w3 (v10.drewN nd11)) := hd (pw_below_drewN HB10.out nd11)
       go_wp2
       go_roundw
       case rel => exact ⟨1, by omega, by go_num, HB11⟩
       case measure => simp [intOf]
      ·obtain rfl : j = 1 := by omega
       have HX0 := hd (HSC3.out.below HBq.out)
       have HU0 := hd (Kd.C_below HCU3.out HBq.out)
       go_wp2_with fail
       clear n0 n1
       refine (used_st HX0.out hids4 5000 name fr tt _ _ (total_sum _ ids name fr tt hids4)).mono ?_
       rintro e v1 ⟨rfl, b⟩
       rw [usedR_eq, usedT_same HQ.out, HT.out]
       have HX1 := hd (HX0.out.below b)
       have HU1 := hd (Kd.C_below HU0.out b)
       have HB1 : Hd (Below w3.heap.size w3 v1) := hd (below_then HBq.out HBq.out.size b)
       clear b HX0 HU0
       go_wp2_with fail
       refine (musterref27_Used.calls k1 A3 c3 u name fr tt t1 t2 t3 v1 HU1.out hc3 K1.out).mono ?_
       rintro e v2 ⟨rfl, b⟩
       have HX2 := hd (HX1.out.below b)
       have HU2 := hd (Kd.C_below HU1.out b)
       have HB2 : Hd (Below w3.heap.size w3 v2) := hd (below_then HB1.out HB1.out.size b)
       clear b HX1 HU1 HB1
       go_wp2_with fail
       refine (hours_st HX2.out hids4 name fr tt).mono ?_
       rintro e v3 ⟨vh, rfl, hR, b⟩
       rw [rollR_same HQ.out, HG.out] at hR ⊢
       obtain ⟨Ah, ch, rfl, hch, hCh⟩ := Kd.R_reads hR
       have HX3 := hd (HX2.out.below b)
       have HU3 := hd (Kd.C_below HU2.out b)
       have HB3 : Hd (Below w3.heap.size w3 v3) := hd (below_then HB2.out HB2.out.size b)
       have HH3 := hd hCh
       clear b HX2 HU2 HB2 hR hCh
       go_wp2_with fail
       refine (musterref27_Rollup.calls k2 A3 c3 u name fr tt 3600 g1 g2 g3 v3 HU3.out hc3 K2.out).mono ?_
       rintro e v4 ⟨vg, rfl, hR, b⟩
       obtain ⟨Ag, cg, rfl, hcg, hCg⟩ := Kd.R_reads hR
       have HX4 := hd (HX3.out.below b)
       have HU4 := hd (Kd.C_below HU3.out b)
       have HB4 : Hd (Below w3.heap.size w3 v4) := hd (below_then HB3.out HB3.out.size b)
       have HH4 := hd (Kd.C_below HH3.out b)
       have HG4 := hd hCg
       clear b HX3 HU3 HB3 HH3 hR hCg
       go_wp2_with fail
       refine (days_st HX4.out hids4 name fr tt).mono ?_
       rintro e v5 ⟨vd, rfl, hR, b⟩
       rw [rollR_same HQ.out, HD.out] at hR ⊢
       obtain ⟨Ad, cd, rfl, hcd, hCd⟩ := Kd.R_reads hR
       have HX5 := hd (HX4.out.below b)
       have HU5 := hd (Kd.C_below HU4.out b)
       have HB5 : Hd (Below w3.heap.size w3 v5) := hd (below_then HB4.out HB4.out.size b)
       have HH5 := hd (Kd.C_below HH4.out b)
       have HG5 := hd (Kd.C_below HG4.out b)
       have HD5 := hd hCd
       clear b HX4 HU4 HB4 HH4 HG4 hR hCd
       go_wp2_with fail
       refine (musterref27_Rollup.calls k3 A3 c3 u name fr tt 86400 d1 d2 d3 v5 HU5.out hc3 K3.out).mono ?_
       rintro e v6 ⟨ve, rfl, hR, b⟩
       obtain ⟨Ae, ce, rfl, hce, hCe⟩ := Kd.R_reads hR
       have HX6 := hd (HX5.out.below b)
       have HU6 := hd (Kd.C_below HU5.out b)
       have HB6 : Hd (Below w3.heap.size w3 v6) := hd (below_then HB5.out HB5.out.size b)
       have HH6 := hd (Kd.C_below HH5.out b)
       have HG6 := hd (Kd.C_below HG5.out b)
       have HD6 := hd (Kd.C_below HD5.out b)
       have HE6 := hd hCe
       clear b HX5 HU5 HB5 HH5 HG5 HD5 hR hCe
       go_wp2_with fail
       refine (musterlow_SameNumbers.calls 1001 Ah ch g1 Ag cg g1 true v6 HH6.out hch HG6.out hcg (same_spec _ (by omega) 1001 (by omega))).mono ?_
       rintro e v7 ⟨rfl, nd, rfl⟩
       have HX7 := hd (HX6.out.drewN nd)
       have HU7 := hd (Kd.C_drewN HU6.out nd)
       have HB7 : Hd (Below w3.heap.size w3 (v6.drewN nd)) := hd (pw_below_drewN HB6.out nd)
       have HD7 := hd (Kd.C_drewN HD6.out nd)
       have HE7 := hd (Kd.C_drewN HE6.out nd)
       clear HX6 HU6 HB6 HH6 HG6 HD6 HE6
       generalize v6.drewN nd = v7 at HX7 HU7 HB7 HD7 HE7 ⊢
       go_wp2_with fail
       refine (musterlow_SameNumbers.calls 1001 Ad cd d1 Ae ce d1 true v7 HD7.out hcd HE7.out hce (same_spec _ (by omega) 1001 (by omega))).mono ?_
       rintro e v8 ⟨rfl, nd8, rfl⟩
       have HX8 := hd (HX7.out.drewN nd8)
       have HU8 := hd (Kd.C_drewN HU7.out nd8)
       have HB8 : Hd (Below w3.heap.size w3 (v7.drewN nd8)) := hd (pw_below_drewN HB7.out nd8)
       clear HX7 HU7 HB7 HD7 HE7
       generalize v7.drewN nd8 = v8 at HX8 HU8 HB8 ⊢
       go_wp2_with fail
       refine (runs_st HX8.out hids4 name).mono ?_
       rintro e v9 ⟨vr, rfl, hR, b⟩
       rw [runsL_same HQ.out, HRL.out] at hR
       obtain ⟨Ar, cr, rfl, hcr, hCr⟩ := Kd.R_reads hR
       have HU9 := hd (Kd.C_below HU8.out b)
       have HB9 : Hd (Below w3.heap.size w3 v9) := hd (below_then HB8.out HB8.out.size b)
       have HR9 := hd hCr
       clear b HX8 HU8 HB8 hR hCr
       go_wp2_with fail
       refine (musterref27_Runs.calls k4 A3 c3 u name rl v9 HU9.out hc3 K4.out).mono ?_
       rintro e v10 ⟨vs, rfl, hR, b⟩
       obtain ⟨Az, cz, rfl, hcz, hCz⟩ := Kd.R_reads hR
       have HB10 : Hd (Below w3.heap.size w3 v10) := hd (below_then HB9.out HB9.out.size b)
       have HR10 := hd (Kd.C_below HR9.out b)
       have HZ10 := hd hCz
       clear b HU9 HB9 HR9 hR hCz
       go_wp2_with fail
       refine (musterlaw27_sameRuns.calls 5000 Ar cr rl Az cz rl true v10 HR10.out hcr HZ10.out hcz (sr_spec _ (by omega) 5000 (by omega))).mono ?_
       rintro e v11 ⟨rfl, nd11, rfl⟩
       have HB11 : Hd (Below w3.heap.size w3 (v10.drewN nd11)) := hd (pw_below_drewN HB10.out nd11)
       go_wp2
       go_roundw
       case rel => exact ⟨2, by omega, by go_num, HB11⟩
       case measure => simp [intOf]
def musterlaw27_AccountPlays.f (l0 : List S36) (a1 : ByteArray) (a2 a3 : Int) : Option Bool := some true
theorem musterlaw27_AccountPlays.calls (A0 : Option Addr) (c0 : Nat) (l0 : List S36) (a1 : ByteArray) (a2 a3 : Int) (r : Bool) (w : World) (hr0 : Kd.C k36 w A0 l0.length l0) (hc0 : l0.length ≤ c0) (h : musterlaw27_AccountPlays.f l0 a1 a2 a3 = some r) :
  Calls Try.prog 8 #[.slice A0 l0.length c0, .string a1, .int .i64 a2, .int .i64 a3] w fun e w' => e = .returned (.bool r) ∧ Below w.heap.size w w' := by
 cases h
 exact plays_walk A0 c0 l0 a1 a2 a3 w hr0 hc0
end Go.Proofs.Ytinpgejkkfpckaa.Pr
