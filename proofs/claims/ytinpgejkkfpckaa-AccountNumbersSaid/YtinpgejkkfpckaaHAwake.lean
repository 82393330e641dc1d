/-
  musterlaw27.awake, by hand: it answers 'true'.
-/
import Derived.Test.YtinpgejkkfpckaaHTake
import Derived.Test.YtinpgejkkfpckaaHRuns
import Derived.Test.YtinpgejkkfpckaaPr3
namespace Go.Proofs.Ytinpgejkkfpckaa.Pr
open Go.RowKit Go.Proofs.YtinpgejkkfpckaaW.PrintWords Go.Proofs.YtinpgejkkfpckaaW.PrintLast Go.Proofs.YtinpgejkkfpckaaW.PrintMore Go.Proofs.YtinpgejkkfpckaaG
set_option linter.unusedVariables false
set_option linter.unusedSimpArgs false
def pastS (x : S36) : Past := ⟨x.f0, x.f1, x.f2, x.f3, x.f4, x.f5, x.f6, x.f7⟩
theorem new_st (w : World) (ok : Nat → Prop) (hok : ∀ k, w.heap.size ≤ k → ok k) : Calls Try.prog 15 #[] w fun e w' => ∃ s, e = .returned (.pointer (some ⟨s, 0, none⟩)) ∧ w.heap.size ≤ s ∧ St w' w.heap.size ok s [] [] ∧ Below w.heap.size w w' := by
  refine (new_any w).mono ?_
  rintro e w' ⟨rfl, hm, hs, hz, hb⟩
  exact ⟨_, rfl, by omega, ⟨w.heap.size, .slice none 0 0, hok _ (by omega), hok _ (by omega), by omega, by omega, by omega, hs, hm, Kd.R_nil _ _ _ _ _⟩, hb⟩
def j0 : S36 := ⟨7, 2, 100, ⟨#[97]⟩, ⟨#[]⟩, 2, 4, 0⟩
def j1 : S36 := ⟨7, 3, 4000, ⟨#[97]⟩, ⟨#[]⟩, 2, 4, 3⟩
theorem t0 : takeT [] [] (pastS j0) = (true, 0, [pastS j0], [7]) := by kernel_rfl
theorem t1 : takeT [pastS j0] [7] (pastS j0) = (false, 0, [pastS j0], [7]) := by kernel_rfl
theorem t2 : takeT [pastS j0] [7] (pastS j1) = (true, 0, [pastS j0, pastS j1], [7]) := by kernel_rfl
def P2 : List Past := [pastS j0, pastS j1]
def nm : ByteArray := ⟨#[97]⟩
theorem u0 : totalP P2 [7] nm 0 10000 = (31200, false) := by kernel_rfl
theorem u1 : rollR P2 [7] nm 0 7200 3600 = ([28000, 3200], false, 0) := by kernel_rfl
theorem u2 : runsL P2 ByteArray.empty [7] = [⟨7, ⟨#[97]⟩, ⟨#[]⟩, 2, 4, 3, -1, 100, 4000⟩] := by kernel_rfl
theorem past_cells {w : World} {g n : Nat} {xs : List S36} (h : Kd.C k36 w (some ⟨g, 0, none⟩) n xs) (i : Nat) (hi : i < n) (o : Nat) (hb : (⟨g, 0, none⟩ : Addr).add (i * 8) = ⟨g, o, none⟩) (x : S36) (hx : xs.getD i z36 = x) :
    w.cell? ⟨g, o, none⟩ = some (.int .i64 x.f0) ∧ w.cell? ⟨g, o + 1, none⟩ = some (.int .u8 x.f1) ∧ w.cell? ⟨g, o + 2, none⟩ = some (.int .i64 x.f2) ∧ w.cell? ⟨g, o + 3, none⟩ = some (.string x.f3) ∧ w.cell? ⟨g, o + 4, none⟩ = some (.string x.f4) ∧
      w.cell? ⟨g, o + 5, none⟩ = some (.int .i64 x.f5) ∧ w.cell? ⟨g, o + 6, none⟩ = some (.int .i64 x.f6) ∧ w.cell? ⟨g, o + 7, none⟩ = some (.int .u8 x.f7) := by
  obtain ⟨ad', e, a⟩ := at_T36 h (i : Int) (by omega) (by omega)
  cases e
  have hr : rd_T36 xs (i : Int) = x := by unfold rd_T36; rw [Int.toNat_natCast]; exact hx
  rw [hr, Int.toNat_natCast, hb] at a
  exact a
theorem nums_row (w : World) (a b : Int) : Kd.C (Kd.int .i64) (w.alloc (.cells #[.int .i64 a, .int .i64 b] 2)) (some ⟨w.heap.size, 0, none⟩) ([a, b] : List Int).length [a, b] := by
  refine ⟨rfl, by simp, fun _ => ⟨_, rfl, fun j p hp => ?_⟩⟩
  refine ⟨[.int .i64 p], rfl, rfl, fun i u hu => ?_⟩
  have hi : i = 0 := by
    have := (List.getElem?_eq_some_iff.1 hu).1
    simp at this
    exact this
  subst hi
  obtain rfl : Value.int .i64 p = u := Option.some.inj hu
  rw [add_off, Nat.zero_add, World.cell?_alloc_new]
  match j, hp with
  | 0, hp => cases hp; rfl
  | 1, hp => cases hp; rfl
  | j + 2, hp => simp at hp
theorem run_row (w : World) (x : S56) : Kd.C k56 (w.alloc (.cells #[.int .i64 x.f0, .string x.f1, .string x.f2, .int .i64 x.f3, .int .i64 x.f4, .int .u8 x.f5, .int .i64 x.f6, .int .i64 x.f7, .int .i64 x.f8] 56)) (some ⟨w.heap.size, 0, none⟩) ([x] : List S56).length [x] := by
  refine ⟨rfl, by simp, fun _ => ⟨_, rfl, fun j p hp => ?_⟩⟩
  match j, hp with
  | 0, hp =>
    cases hp
    refine ⟨_, rfl, k56_mk _ x, fun i u hu => ?_⟩
    rw [add_off, Nat.zero_add, World.cell?_alloc_new, Nat.zero_mul, Nat.zero_add]
    simpa using hu
  | j + 1, hp => simp at hp
set_option maxRecDepth 100000 in
set_option maxHeartbeats 4000000 in
theorem awake_walk (w : World) : Calls Try.prog 14 #[] w fun e w' => e = .returned (.bool true) ∧ Below w.heap.size w w' := by
  go_enter Try.func14, Try.ntmps14
  go_wp2_with fail
  refine (new_st w (fun k => w.heap.size ≤ k) (fun _ h => h)).mono ?_
  rintro e w1 ⟨s, rfl, hs, hS, hb⟩
  have HB1 := hd hb
  have S1 := hd hS
  clear hb hS
  go_wp2_with fail
  refine (musterlaw27_job.calls _ w1 rfl).mono ?_
  rintro e w1a ⟨v, rfl, hR, hb⟩
  obtain ⟨A, c, rfl, hc, hC⟩ := Kd.R_reads hR
  obtain ⟨ad, rfl, _⟩ := at_T36 hC 0 (by decide) (by decide)
  obtain ⟨g1, rfl⟩ := Kd.R_head hR
  have HB1a : Hd (Below w.heap.size w w1a) := hd (below_then HB1.out HB1.out.size hb)
  have S1a := hd (S1.out.below hb)
  obtain ⟨a0, a1, a2, a3, a4, a5, a6, a7⟩ := past_cells hC 0 (by decide) 0 (by first | rfl | simp [Addr.add]) j0 rfl
  simp only [Nat.zero_add, Nat.reduceAdd] at a0 a1 a2 a3 a4 a5 a6 a7
  clear hb hR hC HB1 S1 hc
  go_wp2_with fail
  refine (take_st S1a.out (fun k h => Nat.le_trans HB1a.out.size h) HB1a.out.size (by exact List.Pairwise.nil) (by decide) (pastS j0)).mono ?_
  rintro e w2 ht
  rw [t0] at ht
  obtain ⟨rfl, hS, hO⟩ := ht
  have HB2 : Hd (Below w.heap.size w w2) := hd (hO.to_below (fun _ h => h) HB1a.out HB1a.out.size)
  have S2 := hd hS
  clear hS hO HB1a S1a a0 a1 a2 a3 a4 a5 a6 a7
  go_wp2_with fail
  refine (musterlaw27_job.calls _ w2 rfl).mono ?_
  rintro e w2a ⟨v, rfl, hR, hb⟩
  obtain ⟨A, c, rfl, hc, hC⟩ := Kd.R_reads hR
  obtain ⟨ad, rfl, _⟩ := at_T36 hC 0 (by decide) (by decide)
  obtain ⟨g2, rfl⟩ := Kd.R_head hR
  have HB2a : Hd (Below w.heap.size w w2a) := hd (below_then HB2.out HB2.out.size hb)
  have S2a := hd (S2.out.below hb)
  obtain ⟨a0, a1, a2, a3, a4, a5, a6, a7⟩ := past_cells hC 0 (by decide) 0 (by first | rfl | simp [Addr.add]) j0 rfl
  simp only [Nat.zero_add, Nat.reduceAdd] at a0 a1 a2 a3 a4 a5 a6 a7
  clear hb hR hC HB2 S2 hc
  go_wp2_with fail
  refine (take_st S2a.out (fun k h => Nat.le_trans HB2a.out.size h) HB2a.out.size (by exact List.pairwise_singleton _ _) (by decide) (pastS j0)).mono ?_
  rintro e w3 ht
  rw [t1] at ht
  obtain ⟨rfl, hS, hO⟩ := ht
  have HB3 : Hd (Below w.heap.size w w3) := hd (hO.to_below (fun _ h => h) HB2a.out HB2a.out.size)
  have S3 := hd hS
  clear hS hO HB2a S2a a0 a1 a2 a3 a4 a5 a6 a7
  go_wp2_with fail
  refine (musterlaw27_job.calls _ w3 rfl).mono ?_
  rintro e w3a ⟨v, rfl, hR, hb⟩
  obtain ⟨A, c, rfl, hc, hC⟩ := Kd.R_reads hR
  obtain ⟨ad, rfl, _⟩ := at_T36 hC 0 (by decide) (by decide)
  obtain ⟨g3, rfl⟩ := Kd.R_head hR
  have HB3a : Hd (Below w.heap.size w w3a) := hd (below_then HB3.out HB3.out.size hb)
  have S3a := hd (S3.out.below hb)
  obtain ⟨a0, a1, a2, a3, a4, a5, a6, a7⟩ := past_cells hC 1 (by decide) 8 (by first | rfl | simp [Addr.add]) j1 rfl
  simp only [Nat.zero_add, Nat.reduceAdd] at a0 a1 a2 a3 a4 a5 a6 a7
  clear hb hR hC HB3 S3 hc
  go_wp2_with fail
  refine (take_st S3a.out (fun k h => Nat.le_trans HB3a.out.size h) HB3a.out.size (by exact List.pairwise_singleton _ _) (by decide) (pastS j1)).mono ?_
  rintro e w4 ht
  rw [t2] at ht
  obtain ⟨rfl, hS, hO⟩ := ht
  have HB4 : Hd (Below w.heap.size w w4) := hd (hO.to_below (fun _ h => h) HB3a.out HB3a.out.size)
  have S4 := hd hS
  clear hS hO HB3a S3a a0 a1 a2 a3 a4 a5 a6 a7
  go_wp2_with fail
  refine (used_st S4.out (by decide) 5000 nm 0 10000 31200 false (by rw [total_sum _ _ _ _ _ (by decide)]; have h_ := u0; unfold P2 at h_; rw [h_])).mono ?_
  rintro e w5 ⟨rfl, hb⟩
  have HB5 : Hd (Below w.heap.size w w5) := hd (below_then HB4.out HB4.out.size hb)
  have S5 := hd (S4.out.below hb)
  clear hb HB4 S4
  rw [show usedR 31200 false 0 10000 = .tuple #[.int .i64 31200, .bool false, .int .i64 0] from rfl]
  go_wp2_with fail
  refine (hours_st S5.out (by decide) nm 0 7200).mono ?_
  rintro e w6 ⟨v, rfl, hR, hb⟩
  have e1 : rollR [pastS j0, pastS j1] [7] nm 0 7200 3600 = ([28000, 3200], false, 0) := u1
  rw [e1] at hR ⊢
  obtain ⟨A, c, rfl, hc, hC⟩ := Kd.R_reads hR
  have HB6 : Hd (Below w.heap.size w w6) := hd (below_then HB5.out HB5.out.size hb)
  have S6 := hd (S5.out.below hb)
  have HC6 := hd hC
  have HCC := hd hc
  clear hb HB5 S5 hR hC hc e1
  go_wp2_with fail
  refine (musterlow_SameNumbers.calls 3 A c [28000, 3200] (some ⟨w6.heap.size, 0, none⟩) 2 [28000, 3200] true _ (Kd.C_below HC6.out (below_alloc (Below.refl _ w6) _)) HCC.out (nums_row w6 28000 3200) (Nat.le_refl _) (same_spec _ (by decide) 3 (by decide))).mono ?_
  rintro e w7 ⟨rfl, nd, rfl⟩
  have HB7 : Hd (Below w.heap.size w ((w6.alloc (.cells #[.int .i64 28000, .int .i64 3200] 2)).drewN nd)) := hd (pw_below_drewN (below_alloc HB6.out _) nd)
  have S7 := hd ((S6.out.alloc (.cells #[.int .i64 28000, .int .i64 3200] 2)).drewN nd)
  clear HB6 S6 HC6 HCC
  generalize (w6.alloc (.cells #[.int .i64 28000, .int .i64 3200] 2)).drewN nd = w7 at HB7 S7 ⊢
  go_wp2_with fail
  refine (runs_st S7.out (by decide) ByteArray.empty).mono ?_
  rintro e w8 ⟨v8, rfl, hR, hb⟩
  have e2 : runsL [pastS j0, pastS j1] ByteArray.empty [7] = [⟨7, ⟨#[97]⟩, ⟨#[]⟩, 2, 4, 3, -1, 100, 4000⟩] := u2
  rw [e2] at hR
  obtain ⟨A8, c8, rfl, hc8, hC8⟩ := Kd.R_reads hR
  have HB8 : Hd (Below w.heap.size w w8) := hd (below_then HB7.out HB7.out.size hb)
  have HC8 := hd hC8
  have HCC8 := hd hc8
  clear hb HB7 S7 hR hC8 hc8 e2
  go_wp2_with fail
  refine (musterlaw27_sameRuns.calls 2 A8 c8 [⟨7, ⟨#[97]⟩, ⟨#[]⟩, 2, 4, 3, -1, 100, 4000⟩] (some ⟨w8.heap.size, 0, none⟩) 1 [⟨7, ⟨#[97]⟩, ⟨#[]⟩, 2, 4, 3, -1, 100, 4000⟩] true _ (Kd.C_below HC8.out (below_alloc (Below.refl _ w8) _)) HCC8.out (run_row w8 ⟨7, ⟨#[97]⟩, ⟨#[]⟩, 2, 4, 3, -1, 100, 4000⟩) (Nat.le_refl _) (by kernel_rfl)).mono ?_
  rintro e w9 ⟨rfl, nd9, rfl⟩
  go_wp2_with fail
  go_ret
  exact ⟨rfl, pw_below_drewN (below_alloc HB8.out _) nd9⟩
def musterlaw27_awake.f : Option Bool := some true
theorem musterlaw27_awake.calls (r : Bool) (w : World) (h : musterlaw27_awake.f = some r) : Calls Try.prog 14 #[] w fun e w' => e = .returned (.bool r) ∧ Below w.heap.size w w' := by
  cases h
  exact awake_walk w
end Go.Proofs.Ytinpgejkkfpckaa.Pr
