/-
  session.rising and session.place over type 46: what they tell of the elements' numbers. Written by wip/09/gen_rises.py.
-/
import Derived.Test.YtafnjlgdjhegaaaPr0
import Derived.Test.YtafnjlgdjhegaaaG
import Derived.Test.YtafnjlgdjhegaaaHNum
import Derived.StillTailTactics
import Derived.WalkSpells
import Derived.WalkLawsBesides
namespace Go.Proofs.Ytafnjlgdjhegaaa.Pr
open Go.RowKit Go.Proofs.YtafnjlgdjhegaaaW.PrintWords Go.Proofs.YtafnjlgdjhegaaaW.PrintLast Go.Proofs.YtafnjlgdjhegaaaW.PrintMore Go.Proofs.YtafnjlgdjhegaaaG
set_option linter.unusedVariables false
set_option linter.unusedSimpArgs false
set_option maxHeartbeats 400000 in
theorem num46_any (x : Int) (s : Value) (w : World) : Calls Try.prog 42 #[.agg #[.int .i64 x, s]] w fun e w' => e = .returned (.int .i64 x) ∧ Below w.heap.size w w' := by
  go_enter Try.func42, Try.ntmps42
  go_wp2
  go_ret
  exact ⟨rfl, below_alloc (Below.refl _ _) _⟩
set_option maxHeartbeats 400000 in
theorem rises46_any (A : Option Addr) (c : Nat) (l : List S46) (a : Int) (w : World) (hr : Kd.C k46 w A l.length l) :
    Calls Try.prog 48 #[.slice A l.length c, .int .i64 a, .func (.func 42) #[] #[]] w fun e w' => e = .returned (.bool (rises a (l.map S46.f0))) ∧ Below w.heap.size w w' := by
  have hlen : l.length ≤ 9223372036854775807 := hr.2.1
  have HR := hd hr
  clear hr
  have HNUM := hd num46_any
  go_enter Try.func48, Try.ntmps48
  go_wp2
  go_loopw [1, 11] (fun a' i wr => ∃ (j : Nat) (b : Int), j ≤ l.length ∧ i = .int .i64 (j : Int) ∧ a' = .int .i64 b ∧ Hd (rises b ((l.map S46.f0).drop j) = rises a (l.map S46.f0)) ∧ Hd (Below w.heap.size w wr)) (fun _ i _ => l.length - (intOf i).toNat)
  case atStart => exact ⟨0, a, by omega, rfl, rfl, hd (by simp), hd (Below.refl _ _)⟩
  case round =>
    obtain ⟨j, b, hj, rfl, rfl, HK, HB⟩ := hrel
    by_cases hlt : j < l.length
    · obtain ⟨ad, A2, c2, rfl, h0, h1, _, _⟩ := at_T46 (Kd.C_below HR.out HB.out) (j : Int) (by omega) (by omega)
      obtain ⟨x, hx⟩ : ∃ x, rd_T46 l (j : Int) = x := ⟨_, rfl⟩
      rw [hx, Int.toNat_natCast] at h0 h1
      have HX := hd hx
      clear hx
      have hj' : (j : Int) < (l.length : Int) := by omega
      have NX := hd (drop_getD (l := l.map S46.f0) (j := j) (by rw [List.length_map]; exact hlt))
      have HXV : Hd ((l.map S46.f0).getD j 0 = x.f0) := hd (by rw [← HX.out]; unfold rd_T46; simp [List.getD_eq_getElem?_getD, hlt])
      go_wp2_with fail
      refine (HNUM.out _ _ _).mono ?_
      rintro e w1 ⟨rfl, hb1⟩
      have HB1 : Hd (Below w.heap.size w w1) := hd (below_then (below_alloc HB.out _) (by have := HB.out.size; simp; omega) hb1)
      have hc0 : w1.cell? ⟨wr.heap.size, 0, none⟩ = some (.int .i64 x.f0) := pw_cell_below hb1 (by go_simp)
      have hc1 : w1.cell? ⟨wr.heap.size, 1, none⟩ = some (.slice A2 x.f1.length c2) := pw_cell_below hb1 (by go_simp)
      clear hb1 h0 h1
      have hk := HK.out
      rw [NX.out, HXV.out, rises] at hk
      replace hk := hd hk
      by_cases hle : x.f0 ≤ b
      · go_wp2
        go_ret
        refine ⟨?_, HB1.out⟩
        rw [← hk.out, decide_eq_true hle]
        rfl
      · have hle' : decide (x.f0 ≤ b) = false := by simpa using hle
        go_wp2_with fail
        refine (HNUM.out _ _ _).mono ?_
        rintro e w2 ⟨rfl, hb2⟩
        have HB2 : Hd (Below w.heap.size w w2) := hd (below_then HB1.out HB1.out.size hb2)
        replace hc0 : w2.cell? ⟨wr.heap.size, 0, none⟩ = some (.int .i64 x.f0) := pw_cell_below hb2 hc0
        replace hc1 : w2.cell? ⟨wr.heap.size, 1, none⟩ = some (.slice A2 x.f1.length c2) := pw_cell_below hb2 hc1
        clear hb2
        by_cases hgt : 4611686018427387904 < x.f0
        · go_wp2
          go_ret
          refine ⟨?_, HB2.out⟩
          rw [← hk.out, hle', decide_eq_true hgt]
          rfl
        · have hgt' : decide (4611686018427387904 < x.f0) = false := by simpa using hgt
          go_wp2_with fail
          refine (HNUM.out _ _ _).mono ?_
          rintro e w3 ⟨rfl, hb3⟩
          have HB3 : Hd (Below w.heap.size w w3) := hd (below_then HB2.out HB2.out.size hb3)
          clear hb3 hc0 hc1
          go_wp2
          go_roundw
          case rel => exact ⟨j + 1, x.f0, by omega, by go_num, rfl, hd (by rw [← hk.out, hle', hgt']; rfl), HB3⟩
          case measure => simp [intOf]; omega
    · go_wp2
      go_ret
      have hk := HK.out
      rw [List.drop_of_length_le (by rw [List.length_map]; omega), rises] at hk
      rw [← hk]
      exact ⟨rfl, HB.out⟩
set_option maxHeartbeats 400000 in
theorem cmp46_any (pb : Addr) (x n : Int) (s : Value) (w : World) (hb : w.cell? pb = some (.func (.func 42) #[] #[])) : Calls Try.prog 64 #[.agg #[.int .i64 x, s], .int .i64 n, .pointer (some pb)] w fun e w' => e = .returned (.int .i64 (wrap64 (x - n))) ∧ Below w.heap.size w w' := by
  have HNUM := hd num46_any
  replace hb := pw_cell_below (below_alloc (Below.refl w.heap.size _) (.cells #[.int .i64 x, s] 46)) hb
  go_enter Try.func64, Try.ntmps64
  go_wp2_with fail
  refine (HNUM.out _ _ _).mono ?_
  rintro e w1 ⟨rfl, hb1⟩
  go_wp2
  go_ret
  exact ⟨rfl, below_then (below_alloc (Below.refl _ _) _) (by simp) hb1⟩
set_option maxHeartbeats 400000 in
theorem bsf46_any (A : Option Addr) (c : Nat) (l : List S46) (n : Int) (pb : Addr) (w : World) (hr : Kd.C k46 w A l.length l) (hb : w.cell? pb = some (.func (.func 42) #[] #[])) (hx : ∀ x ∈ l.map S46.f0, i64 x) (hn : i64 n) :
    Calls Try.prog 63 #[.slice A l.length c, .int .i64 n, .func (.func 64) #[] #[.pointer (some pb)]] w fun e w' => ∃ i b, e = .returned (.tuple #[.int .i64 (i : Nat), .bool b]) ∧ Found (l.map S46.f0) n i b ∧ Below w.heap.size w w' := by
  have hlen : l.length ≤ 9223372036854775807 := hr.2.1
  have HR := hd hr
  have HBX := hd hb
  have HX := hd hx
  have HN := hd hn
  clear hr hb hx hn
  obtain ⟨T, hT⟩ : ∃ T, l.map S46.f0 = T := ⟨_, rfl⟩
  have hTl : T.length = l.length := by rw [← hT, List.length_map]
  have HTX : Hd (∀ j, j < l.length → (rd_T46 l (j : Int)).f0 = T.getD j 0) := hd (fun j hj => by rw [← hT]; unfold rd_T46; simp [List.getD_eq_getElem?_getD, hj])
  rw [hT] at HX ⊢
  have HTL := hd hTl
  clear hT hTl
  have HXI : Hd (∀ j, j < l.length → i64 (T.getD j 0)) := hd (fun j hj => HX.out _ (by rw [List.getD_eq_getElem?_getD, List.getElem?_eq_getElem (by rw [HTL.out]; exact hj)]; exact List.getElem_mem _))
  have HCMP := hd cmp46_any
  go_enter Try.func63, Try.ntmps63
  go_wp2
  go_loopw [9, 10] (fun i j wr => ∃ a b : Nat, a ≤ b ∧ b ≤ l.length ∧ i = .int .i64 (a : Int) ∧ j = .int .i64 (b : Int) ∧ Hd (rises 0 T = true → 1 ≤ n → (∀ j, j < a → T.getD j 0 < n) ∧ ∀ j, b ≤ j → j < T.length → n ≤ T.getD j 0) ∧ Hd (Below w.heap.size w wr)) (fun i j _ => (intOf j).toNat - (intOf i).toNat)
  case atStart => exact ⟨0, l.length, by omega, by omega, rfl, rfl, hd (fun _ _ => ⟨fun j h => absurd h (by omega), fun j h1 h2 => by rw [HTL.out] at h2; omega⟩), hd (Below.refl _ _)⟩
  case round =>
    obtain ⟨a, b, h1, h2, rfl, rfl, HI, HB⟩ := hrel
    by_cases hlt : a < b
    · have hm1 : (a + b) / 2 < b := by omega
      have hm2 : a ≤ (a + b) / 2 := by omega
      have hmw := mid_wrap a b (by omega) (by omega)
      obtain ⟨m, hm⟩ : ∃ m, (a + b) / 2 = m := ⟨_, rfl⟩
      rw [hm] at hm1 hm2 hmw
      obtain ⟨ad, A2, c2, rfl, g0, g1, _, _⟩ := at_T46 (Kd.C_below HR.out HB.out) (m : Int) (by omega) (by omega)
      rw [HTX.out m (by omega)] at g0
      obtain ⟨x, hx⟩ : ∃ x, T.getD m 0 = x := ⟨_, rfl⟩
      rw [hx] at g0
      have HX := hd hx
      clear hx
      obtain ⟨z, hz⟩ : ∃ z, Value.slice A2 (rd_T46 l (m : Int)).f1.length c2 = z := ⟨_, rfl⟩
      rw [hz] at g1
      clear hz hm
      rw [Int.toNat_natCast] at g0 g1
      have hm0 : (0 : Int) ≤ (m : Int) := by omega
      have hm3 : (m : Int) < (l.length : Int) := by omega
      go_wp2_with fail
      rw [hmw]
      clear hmw
      refine (HCMP.out pb x n z wr (pw_cell_below HB.out HBX.out)).mono ?_
      rintro e w1 ⟨rfl, hb1⟩
      have HB1 : Hd (Below w.heap.size w w1) := hd (below_then HB.out HB.out.size hb1)
      have HXM := HXI.out m (by omega)
      rw [HX.out] at HXM
      replace HXM := hd HXM
      clear hb1 g0 g1
      obtain ⟨d, hd0⟩ : ∃ d, wrap64 (x - n) = d := ⟨_, rfl⟩
      have HD : Hd (rises 0 T = true → 1 ≤ n → (d < 0 ↔ x < n)) := hd (fun h1 h2 => by
        have hh := rises_at h1 (i := m) (by rw [HTL.out]; omega)
        rw [HX.out] at hh
        rw [← hd0]
        exact cmp_neg hh.1 hh.2 HN.out h2)
      rw [hd0]
      clear hd0
      by_cases hneg : d < 0
      · have HNEG := hd hneg
        go_wp2
        go_roundw
        case rel => exact ⟨m + 1, b, by omega, by omega, by go_num, rfl, hd (fun h1 h2 => ⟨fun j hj => by
          have hh := (HD.out h1 h2).1 HNEG.out
          rcases Nat.lt_or_eq_of_le (Nat.le_of_lt_succ hj) with hlt | rfl
          · have := rises_lt h1 hlt (by rw [HTL.out]; omega)
            rw [HX.out] at this
            omega
          · rw [HX.out]; exact hh, (HI.out h1 h2).2⟩), HB1⟩
        case measure => simp [intOf]; omega
      · have HNEG := hd hneg
        go_wp2
        go_roundw
        case rel => exact ⟨a, m, by omega, by omega, rfl, rfl, hd (fun h1 h2 => ⟨(HI.out h1 h2).1, fun j hj hj2 => by
          have hh : ¬ x < n := fun h => by
            have h3 := (HD.out h1 h2).2 h
            have h4 := HNEG.out
            omega
          rcases Nat.lt_or_eq_of_le hj with hlt | rfl
          · have := rises_lt h1 hlt hj2
            rw [HX.out] at this
            omega
          · rw [HX.out]; omega⟩), HB1⟩
        case measure => simp [intOf]; omega
    · obtain rfl : a = b := by omega
      by_cases hal : a < l.length
      · obtain ⟨ad, A2, c2, rfl, g0, g1, _, _⟩ := at_T46 (Kd.C_below HR.out HB.out) (a : Int) (by omega) (by omega)
        rw [HTX.out a (by omega)] at g0
        obtain ⟨x, hx⟩ : ∃ x, T.getD a 0 = x := ⟨_, rfl⟩
        rw [hx] at g0
        have HX := hd hx
        clear hx
        obtain ⟨z, hz⟩ : ∃ z, Value.slice A2 (rd_T46 l (a : Int)).f1.length c2 = z := ⟨_, rfl⟩
        rw [hz] at g1
        clear hz
        rw [Int.toNat_natCast] at g0 g1
        have hm3 : (a : Int) < (l.length : Int) := by omega
        go_wp2_with fail
        refine (HCMP.out pb x n z wr (pw_cell_below HB.out HBX.out)).mono ?_
        rintro e w1 ⟨rfl, hb1⟩
        have HB1 : Hd (Below w.heap.size w w1) := hd (below_then HB.out HB.out.size hb1)
        have HXM := HXI.out a (by omega)
        rw [HX.out] at HXM
        have HZ := cmp_zero HXM HN.out
        clear hb1 g0 g1 HXM
        obtain ⟨d, hd0⟩ : ∃ d, wrap64 (x - n) = d := ⟨_, rfl⟩
        rw [hd0] at HZ ⊢
        clear hd0
        go_wp2
        go_ret2
        refine ⟨a, decide (d = 0), by congr 1, ⟨by rw [HTL.out]; omega, ?_, HI.out⟩, HB1.out⟩
        rw [decide_eq_true_eq, HZ, HX.out, HTL.out]
        simp [hal]
      · go_wp2
        go_ret2
        refine ⟨a, false, rfl, ⟨by rw [HTL.out]; omega, ?_, HI.out⟩, HB.out⟩
        rw [HTL.out]
        simp [hal]
set_option maxHeartbeats 400000 in
theorem place46_any (A : Option Addr) (c : Nat) (l : List S46) (n : Int) (w : World) (hr : Kd.C k46 w A l.length l) (hx : ∀ x ∈ l.map S46.f0, i64 x) (hn : i64 n) :
    Calls Try.prog 41 #[.slice A l.length c, .int .i64 n, .func (.func 42) #[] #[]] w fun e w' => ∃ i b, e = .returned (.tuple #[.int .i64 (i : Nat), .bool b]) ∧ Found (l.map S46.f0) n i b ∧ Below w.heap.size w w' := by
  have HB : Hd (Below w.heap.size w (w.alloc (.cells #[.func (.func 42) #[] #[]] 86))) := hd (below_alloc (Below.refl _ _) _)
  have HC : Hd ((w.alloc (.cells #[.func (.func 42) #[] #[]] 86)).cell? ⟨w.heap.size, 0, none⟩ = some (.func (.func 42) #[] #[])) := hd (by go_simp)
  have HR := hd hr
  have HX := hd hx
  have HN := hd hn
  clear hr hx hn
  go_enter Try.func41, Try.ntmps41
  go_wp2_with fail
  refine (bsf46_any A c l n _ _ (Kd.C_below HR.out HB.out) HC.out HX.out HN.out).mono ?_
  rintro e w1 ⟨i, b, rfl, hf, hb1⟩
  have HF := hd hf
  have HB1 : Hd (Below w.heap.size w w1) := hd (below_then HB.out (by simp) hb1)
  clear hf hb1
  go_wp2
  go_ret2
  exact ⟨i, b, rfl, HF.out, HB1.out⟩
end Go.Proofs.Ytafnjlgdjhegaaa.Pr
