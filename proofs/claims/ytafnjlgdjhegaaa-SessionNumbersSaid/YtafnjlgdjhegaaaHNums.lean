/-
  musterlaw09.SessionNumbers, by hand.
-/
import Derived.Test.YtafnjlgdjhegaaaHReg63
import Derived.Deep.CutBlock
import Derived.Deep.DeepCutAuto
namespace Go.Proofs.Ytafnjlgdjhegaaa.Pr
open Go.RowKit Go.Proofs.YtafnjlgdjhegaaaW.PrintWords Go.Proofs.YtafnjlgdjhegaaaW.PrintLast Go.Proofs.YtafnjlgdjhegaaaW.PrintMore Go.Proofs.YtafnjlgdjhegaaaG
set_option linter.unusedVariables false
set_option linter.unusedSimpArgs false
theorem six_cells {w : World} {g : Nat} (h : w.heap[g]? = some (.cells #[.int .i64 0, .int .i64 1, .int .i64 0, .int .i64 1, .int .i64 0, .int .i64 0, .int .i64 1, .int .i64 1, .int .i64 1, .int .i64 1, .int .i64 1, .int .i64 (-1), .int .i64 4611686018427387905, .int .i64 1, .int .i64 0, .int .i64 1, .int .i64 4611686018427387905, .int .i64 0] 40 (0, 0))) (q : Nat) (hq : q < 6) : ∃ y0 y1 y2 : Int, (y0 = (six.getD q (0, 0, 0)).1 ∧ w.cell? ⟨g, q * 3, none⟩ = some (.int .i64 y0)) ∧ (y1 = (six.getD q (0, 0, 0)).2.1 ∧ w.cell? ⟨g, q * 3 + 1, none⟩ = some (.int .i64 y1)) ∧ (y2 = (six.getD q (0, 0, 0)).2.2 ∧ w.cell? ⟨g, q * 3 + 2, none⟩ = some (.int .i64 y2)) := by
  refine ⟨_, _, _, ⟨rfl, ?_⟩, ⟨rfl, ?_⟩, ⟨rfl, ?_⟩⟩
  all_goals
    rw [blk_cell h]
    match q, hq with
    | 0, _ => rfl
    | 1, _ => rfl
    | 2, _ => rfl
    | 3, _ => rfl
    | 4, _ => rfl
    | 5, _ => rfl
theorem vs_cell {w : World} {g : Nat} {vs : Nat → Value} (h : w.heap[g]? = some (.cells #[vs 0, vs 1, vs 2, vs 3, vs 4, vs 5, vs 6, vs 7] 22 (0, 0))) (q : Nat) (hq : q < 8) : w.cell? ⟨g, q, none⟩ = some (vs q) := by
  rw [blk_cell h]
  match q, hq with
  | 0, _ => rfl
  | 1, _ => rfl
  | 2, _ => rfl
  | 3, _ => rfl
  | 4, _ => rfl
  | 5, _ => rfl
  | 6, _ => rfl
  | 7, _ => rfl
theorem holdN {p} (h : Hd p) : p := h.out
/-- A row of waits that does not lie in a given block. -/
def RN (w : World) (g : Nat) (v : Value) (l : List S70) : Prop := ∃ base : Nat, Kd.R k70 70 w base (fun k => k ≠ g) v l
section
variable {w w' : World} {g : Nat} {v : Value} {l : List S70}
theorem RN_below (h : RN w g v l) (hb : Below w.heap.size w w') : RN w' g v l := by
  obtain ⟨base, h⟩ := h
  exact ⟨base, Kd.R_below h hb⟩
theorem RN_set (h : RN w g v l) (cells : Array Value) : RN (w.setRow g cells) g v l := by
  obtain ⟨base, h⟩ := h
  exact ⟨base, Kd.R_step h (fun k hk hl => setRow_other _ _ _ _ (fun e => hk (by omega)))⟩
theorem RN_slice (h : RN w g v l) : ∃ A c, v = .slice A l.length c := by
  obtain ⟨base, h⟩ := h
  exact Kd.R_slice h
theorem RN_reads {A : Option Addr} {n c : Nat} (h : RN w g (.slice A n c) l) : n = l.length ∧ l.length ≤ c ∧ Kd.C k70 w A l.length l := by
  obtain ⟨base, h⟩ := h
  obtain ⟨h1, h2, h3⟩ := Kd.R_reads' h
  exact ⟨h1, by omega, h3⟩
theorem RN_new {b : Nat} (h : Kd.S k70 70 w b (fun _ => True) v l) (hg : g < b) : RN w g v l := ⟨_, Kd.R_mono (Kd.R_bound (Kd.S_R h)) (fun k hk => by have := hk.2.1; omega)⟩
theorem RN_take {b : Nat} (h : ∃ base : Nat, Kd.R k70 70 w base (fun k_ => b ≤ k_) v l) (hg : g < b) : RN w g v l := by
  obtain ⟨base, h⟩ := h
  exact ⟨base, Kd.R_mono h (fun k hk => by omega)⟩
theorem RN_old {base : Nat} {ok : Nat → Prop} {p : Nat → Prop} (h : Kd.R k70 70 w base (fun k => ok k ∧ base ≤ k ∧ k < w.heap.size ∧ p k) v l) (hb : Below w.heap.size w w') (hg : g = w.heap.size) : RN w' g v l := ⟨base, Kd.R_mono (Kd.R_below h hb) (fun k hk => by have := hk.2.2.1; omega)⟩
end
theorem many_take (i : Nat) (h : i < 17) : many17.take i ++ [⟨(i : Int) + 1, 0, []⟩] = many17.take (i + 1) := by
  rw [List.take_add_one]
  congr 1
  simp [many17, h]
theorem kept_take (i : Nat) (h : i < 17) : kept17.take i ++ [⟨(i : Int) + 1, []⟩] = kept17.take (i + 1) := by
  rw [List.take_add_one]
  congr 1
  simp [kept17, h]
set_option maxRecDepth 100000 in
set_option maxHeartbeats 8000000 in
theorem nums_walk (w : World) : Calls Try.prog 5 #[] w fun e w' => e = .returned (.bool true) ∧ Below w.heap.size w w' := by
  have HB := hd (Below.refl w.heap.size w)
  go_enter Try.func5, Try.ntmps5
  go_wp2
  go_loopg [1, 2] 16 (fun kq v1 v2 w' => ∃ (i : Nat) (l : List S44) (A : Option Addr) (c : Nat), Hd (kq + i = 16) ∧ l = listA i ∧ Hd (l.length = i) ∧ v1 = .slice A l.length c ∧ v2 = .int .i64 ((i : Int) + 1) ∧ Hd (l.length ≤ c) ∧ Hd (Kd.C k44 w' A l.length l) ∧ Hd (Below w.heap.size w w'))
  case atStart => exact ⟨0, [], none, 0, hd (by omega), rfl, hd rfl, rfl, rfl, hd (Nat.le_refl _), hd ⟨rfl, by simp, fun h => absurd h (by simp)⟩, HB⟩
  clear HB
  obtain ⟨i, l, A, c, HI, hl, HL, rfl, rfl, HC, HK, HB⟩ := hrel
  have HLA := hd hl
  clear hl
  by_cases hi : i < 16
  · have c1 : decide ((i : Int) + 1 ≤ 16) = true := decide_eq_true (by omega)
    have c2 : wrap64 (17 - ((i : Int) + 1)) = 17 - ((i : Int) + 1) := by unfold wrap64; omega
    have hlk := look_A i hi
    rw [← HLA.out] at hlk
    go_wp2_with fail
    refine (session_Look.calls A c l _ 1 0 (listA (i + 1)) 1 [] 0 _ HK.out HC.out hlk).mono ?_
    rintro e w1 ⟨v1, v2, rfl, r1, r2, b⟩
    obtain ⟨A1, cc1, rfl, hc1, k1⟩ := Kd.R_reads r1
    have HB2 : Hd (Below w.heap.size w w1) := hd (below_then HB.out HB.out.size b)
    have K1 := hd k1
    have HC1 := hd hc1
    have HL1 : Hd ((listA (i + 1)).length = i + 1) := hd (listA_len _)
    have c3 : (((listA (i + 1)).length : Nat) : Int) = (i : Int) + 1 := by rw [listA_len]; omega
    generalize hl1 : listA (i + 1) = l1 at *
    clear r1 r2 hc1 k1 b HB hlk
    go_wp2_with fail
    have c4 : wrap64 ((i : Int) + 1 + 1) = ((i + 1 : Nat) : Int) + 1 := by unfold wrap64; omega
    go_roundg (15 - i)
    case measure => have := HI.out; omega
    case rel => exact ⟨i + 1, l1, A1, cc1, hd (by have := HI.out; omega), hl1.symm, hd HL1.out, rfl, congrArg (Value.int .i64) (show (i : Int) + 1 + 1 = ((i + 1 : Nat) : Int) + 1 by omega), hd HC1.out, hd K1.out, hd HB2.out⟩
  have hi16 : i = 16 := by have := HI.out; omega
  subst hi16
  have c1 : decide (((16 : Nat) : Int) + 1 ≤ 16) = false := decide_eq_false (by omega)
  have f1 := look_17
  have f2 := look_3
  rw [← HLA.out] at f1 f2
  have F1 := hd f1
  have F2 := hd f2
  have HLD : Hd (l = listD 0) := hd (HLA.out.trans listAD)
  clear f1 f2 hi
  go_wp2_with fail
  refine (session_Look.calls A c l 17 1 0 [] 0 [] 5 _ HK.out HC.out F1.out).mono ?_
  rintro e w1 ⟨vm, vx, rfl, rm, rx, b⟩
  clear rm rx
  replace HK := hd (Kd.C_below HK.out b)
  replace HB : Hd (Below w.heap.size w w1) := hd (below_then HB.out HB.out.size b)
  clear b
  go_wp2_with fail
  refine (session_Look.calls A c l 3 1 0 l 1 [] 0 _ HK.out HC.out F2.out).mono ?_
  rintro e w2 ⟨vm, vx, rfl, rm, rx, b⟩
  clear rm rx
  replace HK := hd (Kd.C_below HK.out b)
  replace HB : Hd (Below w.heap.size w w2) := hd (below_then HB.out HB.out.size b)
  clear b
  go_wp2_with fail
  clear HL HI F1 F2 HLA c1
  go_loopg [1, 15] 8 (fun kq v1 v2 w' => ∃ (i : Nat) (l : List S44) (A : Option Addr) (c : Nat), Hd (kq + i = 8) ∧ l = listD i ∧ v1 = .slice A l.length c ∧ v2 = .int .i64 ((i : Int) + 1) ∧ Hd (l.length ≤ c) ∧ Hd (Kd.C k44 w' A l.length l) ∧ Hd (Below w.heap.size w w'))
  case atStart => exact ⟨0, l, A, c, hd (by omega), HLD.out, rfl, rfl, HC, HK, HB⟩
  clear HB HLD HC HK
  obtain ⟨i, l, A, c, HI, hl, rfl, rfl, HC, HK, HB⟩ := hrel
  have HLD := hd hl
  clear hl
  by_cases hi : i < 8
  · have c1 : decide ((i : Int) + 1 ≤ 8) = true := decide_eq_true (by omega)
    have c2 : wrap64 (2 * ((i : Int) + 1)) = 2 * ((i : Int) + 1) := by unfold wrap64; omega
    have hlk := done_D i hi
    rw [← HLD.out] at hlk
    go_wp2_with fail
    refine (session_Done.calls A c l _ _ none 0 [] (listD (i + 1)) 0 _ HK.out HC.out (show Kd.C (Kd.int .u8) _ none ([] : List Int).length [] from ⟨rfl, by simp, fun h => absurd h (by simp)⟩) (Nat.le_refl _) hlk).mono ?_
    rintro e w1 ⟨v1, rfl, r1, b⟩
    obtain ⟨A1, cc1, rfl, hc1, k1⟩ := Kd.R_reads r1
    have HB2 : Hd (Below w.heap.size w w1) := hd (below_then HB.out HB.out.size b)
    have K1 := hd k1
    have HC1 := hd hc1
    generalize hl1 : listD (i + 1) = l1 at *
    clear r1 hc1 k1 b HB hlk
    go_wp2_with fail
    have c4 : wrap64 ((i : Int) + 1 + 1) = ((i + 1 : Nat) : Int) + 1 := by unfold wrap64; omega
    go_roundg (7 - i)
    case measure => have := HI.out; omega
    case rel => exact ⟨i + 1, l1, A1, cc1, hd (by have := HI.out; omega), hl1.symm, rfl, congrArg (Value.int .i64) (show (i : Int) + 1 + 1 = ((i + 1 : Nat) : Int) + 1 by omega), hd HC1.out, hd K1.out, hd HB2.out⟩
  have hi8 : i = 8 := by have := HI.out; omega
  subst hi8
  have c1 : decide (((8 : Nat) : Int) + 1 ≤ 8) = false := decide_eq_false (by omega)
  have hl := HLD.out
  clear hi HI HLD
  subst hl
  go_wp2_with fail
  refine (session_Look.calls A c (listD 8) 3 3 0 (listD 8) 4 [] 0 _ HK.out HC.out look_busy).mono ?_
  rintro e w3 ⟨vm, vx, rfl, rm, rx, b⟩
  clear rm rx
  replace HK := hd (Kd.C_below HK.out b)
  replace HB : Hd (Below w.heap.size w w3) := hd (below_then HB.out HB.out.size b)
  clear b
  go_wp2_with fail
  refine (session_Look.calls A c (listD 8) 3 5 2 listF 1 [] 0 _ HK.out HC.out look_free).mono ?_
  rintro e w4 ⟨vm, vx, rfl, rm, rx, b⟩
  clear rm rx
  replace HK := hd (Kd.C_below HK.out b)
  replace HB : Hd (Below w.heap.size w w4) := hd (below_then HB.out HB.out.size b)
  clear b
  go_wp2_with fail
  refine (session_Done.calls A c (listD 8) 3 3 none 0 [] [] 5 _ HK.out HC.out (show Kd.C (Kd.int .u8) _ none ([] : List Int).length [] from ⟨rfl, by simp, fun h => absurd h (by simp)⟩) (Nat.le_refl _) done_3).mono ?_
  rintro e w5 ⟨vm, rfl, rm, b⟩
  clear rm
  replace HK := hd (Kd.C_below HK.out b)
  replace HB : Hd (Below w.heap.size w w5) := hd (below_then HB.out HB.out.size b)
  clear b
  go_wp2_with fail
  refine (session_Done.calls A c (listD 8) 3 2 none 0 [] [] 2 _ HK.out HC.out (show Kd.C (Kd.int .u8) _ none ([] : List Int).length [] from ⟨rfl, by simp, fun h => absurd h (by simp)⟩) (Nat.le_refl _) done_2).mono ?_
  rintro e w6 ⟨vm, rfl, rm, b⟩
  clear rm
  replace HK := hd (Kd.C_below HK.out b)
  replace HB : Hd (Below w.heap.size w w6) := hd (below_then HB.out HB.out.size b)
  clear b
  go_wp2_with fail
  refine (session_Done.calls A c (listD 8) 99 1 none 0 [] [] 2 _ HK.out HC.out (show Kd.C (Kd.int .u8) _ none ([] : List Int).length [] from ⟨rfl, by simp, fun h => absurd h (by simp)⟩) (Nat.le_refl _) done_99).mono ?_
  rintro e w7 ⟨vm, rfl, rm, b⟩
  clear rm
  replace HK := hd (Kd.C_below HK.out b)
  replace HB : Hd (Below w.heap.size w w7) := hd (below_then HB.out HB.out.size b)
  clear b
  go_wp2_with ((with_reducible refine gate_dst (N := 172) rfl ?_); refine Kd.R_make (Kd.int .u8) (w0 := w7) w7.heap.size 5 rfl (N := 172) rfl 23 _ _ rfl 65537 rfl rfl Try.underlying23 (.int .u8 0) 1 info5 rfl (by decide) (by omega) (0 : Int) (ok := fun _ => True) (okp := fun _ => True) (show Kd.M (Kd.int .u8) _ _ _ 0 [.int .u8 0] from rfl) (fun _ h => h) trivial (by omega) (by decide) (Below.refl _ _) (Nat.le_refl _) ?_; intro vz w8 rz hbz hg hat; generalize hrep : List.replicate _ (0 : Int) = rep at rz; have HRP := hd hrep; have HRZ := hd rz; have HBZ := hd hbz; clear hg hat rz hbz hrep; obtain ⟨Az, cz, ez⟩ := Kd.R_slice HRZ.out; subst ez)
  obtain ⟨_, hcz, kz⟩ := Kd.R_reads' HRZ.out
  have KZ := hd kz
  have HCZ := hd hcz
  have HLZ : Hd (rep.length = 65537) := hd (by rw [← HRP.out, List.length_replicate]; rfl)
  have b := HBZ.out
  clear kz hcz HBZ HRZ HRP
  replace HK := hd (Kd.C_below HK.out b)
  replace HB : Hd (Below w.heap.size w w8) := hd (below_then HB.out HB.out.size b)
  clear b
  refine (session_Done.calls A c (listD 8) 4 1 Az cz rep [] 3 _ HK.out HC.out KZ.out HCZ.out (done_long rep (by have := HLZ.out; omega))).mono ?_
  rintro e w9 ⟨vm, rfl, rm, b⟩
  clear rm KZ HCZ HLZ
  replace HK := hd (Kd.C_below HK.out b)
  replace HB : Hd (Below w.heap.size w w9) := hd (below_then HB.out HB.out.size b)
  clear b
  go_wp2_with ((with_reducible refine gate_dst (N := 178) rfl ?_); refine Kd.R_make (Kd.int .u8) (w0 := w9) w9.heap.size 5 rfl (N := 178) rfl 23 _ _ rfl 65536 rfl rfl Try.underlying23 (.int .u8 0) 1 info5 rfl (by decide) (by omega) (0 : Int) (ok := fun _ => True) (okp := fun _ => True) (show Kd.M (Kd.int .u8) _ _ _ 0 [.int .u8 0] from rfl) (fun _ h => h) trivial (by omega) (by decide) (Below.refl _ _) (Nat.le_refl _) ?_; intro vz w10 rz hbz hg hat; generalize hrep : List.replicate _ (0 : Int) = rep at rz; have HRP := hd hrep; have HRZ := hd rz; have HBZ := hd hbz; clear hg hat rz hbz hrep; obtain ⟨Az, cz, ez⟩ := Kd.R_slice HRZ.out; subst ez)
  obtain ⟨_, hcz, kz⟩ := Kd.R_reads' HRZ.out
  have KZ := hd kz
  have HCZ := hd hcz
  have HLZ : Hd (rep.length = 65536) := hd (by rw [← HRP.out, List.length_replicate]; rfl)
  have b := HBZ.out
  clear kz hcz HBZ HRZ HRP
  replace HK := hd (Kd.C_below HK.out b)
  replace HB : Hd (Below w.heap.size w w10) := hd (below_then HB.out HB.out.size b)
  clear b
  refine (session_Done.calls A c (listD 8) 4 1 Az cz rep (doneRow (listD 8) 3 1 rep) 0 _ HK.out HC.out KZ.out HCZ.out (done_short rep (by have := HLZ.out; omega))).mono ?_
  rintro e w11 ⟨vm, rfl, rm, b⟩
  clear rm KZ HCZ HLZ
  replace HK := hd (Kd.C_below HK.out b)
  replace HB : Hd (Below w.heap.size w w11) := hd (below_then HB.out HB.out.size b)
  clear b
  clear HK HC
  go_wp2_with fail
  have HXS := hd (blk_new w11 (.cells #[.int .i64 0, .int .i64 1, .int .i64 0, .int .i64 1, .int .i64 0, .int .i64 0, .int .i64 1, .int .i64 1, .int .i64 1, .int .i64 1, .int .i64 1, .int .i64 (-1), .int .i64 4611686018427387905, .int .i64 1, .int .i64 0, .int .i64 1, .int .i64 4611686018427387905, .int .i64 0] 40))
  have b : Below w11.heap.size w11 (w11.alloc (.cells #[.int .i64 0, .int .i64 1, .int .i64 0, .int .i64 1, .int .i64 0, .int .i64 0, .int .i64 1, .int .i64 1, .int .i64 1, .int .i64 1, .int .i64 1, .int .i64 (-1), .int .i64 4611686018427387905, .int .i64 1, .int .i64 0, .int .i64 1, .int .i64 4611686018427387905, .int .i64 0] 40)) := below_alloc (Below.refl _ _) _
  replace HB : Hd (Below w.heap.size w (w11.alloc (.cells #[.int .i64 0, .int .i64 1, .int .i64 0, .int .i64 1, .int .i64 0, .int .i64 0, .int .i64 1, .int .i64 1, .int .i64 1, .int .i64 1, .int .i64 1, .int .i64 (-1), .int .i64 4611686018427387905, .int .i64 1, .int .i64 0, .int .i64 1, .int .i64 4611686018427387905, .int .i64 0] 40))) := hd (below_then HB.out HB.out.size b)
  clear b
  generalize w11.alloc (.cells #[.int .i64 0, .int .i64 1, .int .i64 0, .int .i64 1, .int .i64 0, .int .i64 0, .int .i64 1, .int .i64 1, .int .i64 1, .int .i64 1, .int .i64 1, .int .i64 (-1), .int .i64 4611686018427387905, .int .i64 1, .int .i64 0, .int .i64 1, .int .i64 4611686018427387905, .int .i64 0] 40) = w12 at HXS HB ⊢
  generalize w11.heap.size = gs at HXS ⊢
  go_loopg [224] 6 (fun kq v224 w' => ∃ (q : Nat), Hd (kq + q = 6) ∧ v224 = .int .i64 (q : Int) ∧ Hd (w'.heap[gs]? = some (.cells #[.int .i64 0, .int .i64 1, .int .i64 0, .int .i64 1, .int .i64 0, .int .i64 0, .int .i64 1, .int .i64 1, .int .i64 1, .int .i64 1, .int .i64 1, .int .i64 (-1), .int .i64 4611686018427387905, .int .i64 1, .int .i64 0, .int .i64 1, .int .i64 4611686018427387905, .int .i64 0] 40 (0, 0))) ∧ Hd (Below w.heap.size w w'))
  case atStart => exact ⟨0, hd (by omega), rfl, HXS, HB⟩
  clear HB HXS
  obtain ⟨q, HI, rfl, HXS, HB⟩ := hrel
  by_cases hq : q < 6
  · have c1 : decide ((q : Int) < 6) = true := decide_eq_true (by omega)
    obtain ⟨y0, y1, y2, hy0, hy1, hy2⟩ := six_cells HXS.out q hq
    have e0 := hy0.2
    have e1 := hy1.2
    have e2 := hy2.2
    have p0 : (0 ≤ (q : Int)) = True := eq_true (by omega)
    have p1 : ((q : Int) < 6) = True := eq_true (by omega)
    go_wp2_with fail
    refine (session_Look.calls none 0 [] _ _ _ [] 0 [] 2 _ (show Kd.C k44 _ none ([] : List S44).length [] from ⟨rfl, by simp, fun h => absurd h (by simp)⟩) (Nat.le_refl _) (look_six q hq)).mono ?_
    rintro e w2 ⟨v1, v2, rfl, r1, r2, b⟩
    obtain ⟨A1, cc1, rfl, hc1, k1⟩ := Kd.R_reads r1
    have HB2 : Hd (Below w.heap.size w w2) := hd (below_then (below_alloc HB.out _) (below_alloc HB.out _).size b)
    have HX2 := hd (blk_below (blk_alloc HXS.out _) b)
    clear r1 r2 hc1 k1 b HB HXS e0 e1 e2 hy0 hy1 hy2
    go_wp2_with fail
    have c4 : wrap64 ((q : Int) + 1) = ((q + 1 : Nat) : Int) := by unfold wrap64; omega
    go_roundg (5 - q)
    case measure => have := HI.out; omega
    case rel => exact ⟨q + 1, hd (by have := HI.out; omega), by first | rfl | exact congrArg (Value.int .i64) c4 | exact congrArg (Value.int .i64) (show (q : Int) + 1 = ((q + 1 : Nat) : Int) by omega), HX2, HB2⟩
  have hq6 : q = 6 := by have := HI.out; omega
  subst hq6
  have c1 : decide (((6 : Nat) : Int) < 6) = false := decide_eq_false (by omega)
  clear HXS hq HI
  go_wp2_with fail
  go_loopg [43, 44, 45] 17 (fun kq v43 v44 v45 w' => ∃ (i : Nat), Hd (kq + i = 17) ∧ v45 = .int .i64 ((i : Int) + 1) ∧ Hd (Kd.R k44 44 w' w.heap.size (fun k => some k ≠ v44.ownBlock) v43 (many17.take i)) ∧ Hd (Kd.R k46 46 w' w.heap.size (fun k => some k ≠ v43.ownBlock) v44 (kept17.take i)) ∧ Hd (Below w.heap.size w w'))
  case atStart => exact ⟨0, hd (by omega), rfl, hd (Kd.R_nil _ _ _ _ _), hd (Kd.R_nil _ _ _ _ _), HB⟩
  clear HB
  obtain ⟨i, HI, rfl, HM, HK, HB⟩ := hrel
  by_cases hi : i < 17
  · have c1 : decide ((i : Int) + 1 ≤ 17) = true := decide_eq_true (by omega)
    go_wp2_with (first | ((with_reducible refine gate_builtin (b := .append) (xs := #[.tmp 256, .tmp 259]) rfl ?_); at_builtin; refine Kd.R_append k44 (w0 := w) w.heap.size rfl (.tmp 256) (.tmp 259) 22 44 (.agg #[(.int .i64 0), (.int .i64 0), (.slice none 0 0)]) 40 rfl Try.underlying22 info44 rfl (by decide) (by omega) u43 (many17.take i) (⟨(i : Int) + 1, 0, []⟩ : S44) [.int .i64 ((i : Int) + 1), .int .i64 0, .slice none 0 0] (fun k => some k ≠ u44.ownBlock) (fun _ => False) rfl rfl (k44_mkM _ _ _ (⟨(i : Int) + 1, 0, []⟩ : S44) (Kd.R_nil _ _ _ _ _)) (fun _ h => h.elim) (Kd.fresh' (Kd.R_lt HK.out)) HM.out HB.out HB.out.size (by rw [List.length_take]; omega) ?_; intro x43 w3 ho hb hg hat; have HM3 := hd ho; have HB3 := hd hb; have HK3 := hd (Kd.R_after (ok := fun _ => True) (Kd.R_mono HK.out (fun k hk => ⟨trivial, hk⟩)) hg hat); clear HM HB HK ho hb hg hat) | ((with_reducible refine gate_builtin (b := .append) (xs := #[.tmp 261, .tmp 264]) rfl ?_); at_builtin; refine Kd.R_append k46 (w0 := w) w.heap.size rfl (.tmp 261) (.tmp 264) 42 46 (.agg #[(.int .i64 0), (.slice none 0 0)]) 32 rfl Try.underlying42 info46 rfl (by decide) (by omega) u44 (kept17.take i) (⟨(i : Int) + 1, []⟩ : S46) [.int .i64 ((i : Int) + 1), .slice none 0 0] (fun k => True ∧ some k ≠ x43.ownBlock) (fun _ => False) rfl rfl (k46_mkM _ _ _ (⟨(i : Int) + 1, []⟩ : S46) (Kd.R_nil _ _ _ _ _)) (fun _ h => h.elim) (fun k hk => ⟨trivial, Kd.fresh' (Kd.R_lt HM3.out) k hk⟩) HK3.out HB3.out HB3.out.size (by rw [List.length_take]; omega) ?_; intro x44 w5 ho hb hg hat; have HK5 := hd ho; have HB5 := hd hb; have HM5 := hd (Kd.R_after (ok := fun _ => True) (Kd.R_mono HM3.out (fun k hk => ⟨trivial, hk⟩)) hg hat); clear HM3 HB3 HK3 ho hb hg hat))
    rw [many_take i hi] at HM5
    rw [kept_take i hi] at HK5
    have c4 : wrap64 ((i : Int) + 1 + 1) = ((i + 1 : Nat) : Int) + 1 := by unfold wrap64; omega
    go_roundg (16 - i)
    case measure => have := HI.out; omega
    case rel => exact ⟨i + 1, hd (by have := HI.out; omega), by first | rfl | exact congrArg (Value.int .i64) c4 | exact congrArg (Value.int .i64) (show (i : Int) + 1 + 1 = ((i + 1 : Nat) : Int) + 1 by omega), hd (Kd.R_mono HM5.out (fun k hk => hk.2)), hd (Kd.R_mono HK5.out (fun k hk => hk.2)), HB5⟩
  have hi17 : i = 17 := by have := HI.out; omega
  subst hi17
  have c1 : decide (((17 : Nat) : Int) + 1 ≤ 17) = false := decide_eq_false (by omega)
  have hm1 := HM.out
  have hk1 := HK.out
  rw [show many17.take 17 = many17 from rfl] at hm1
  rw [show kept17.take 17 = kept17 from rfl] at hk1
  obtain ⟨AM, cM, eM, hcM, km⟩ := Kd.R_reads hm1
  obtain ⟨AK, cK, eK, hcK, kk⟩ := Kd.R_reads hk1
  have KM := hd km
  have KK := hd kk
  have HCM := hd hcM
  have HCK := hd hcK
  clear hm1 hk1 km kk hcM hcK HM HK hi HI
  subst eM
  subst eK
  have hcut := cut_to (P := Try.prog) 22 44 .i64 Try.underlying22 (i := _) rfl AM many17.length cM 16 (by omega) (by decide) HCM.out
  go_wp2_with fail
  refine (right_any AM cM (many17.take 16) wr (Kd.C_take KM.out (by decide))).mono ?_
  rintro e w13 ⟨rfl, b⟩
  rw [right_many]
  have hcut := cut_to (P := Try.prog) 42 46 .i64 Try.underlying42 (i := _) rfl AK kept17.length cK 8 (by omega) (by decide) HCK.out
  replace KM := hd (Kd.C_below KM.out b)
  replace KK := hd (Kd.C_below KK.out b)
  replace HB : Hd (Below w.heap.size w w13) := hd (below_then HB.out HB.out.size b)
  clear b
  go_wp2_with fail
  have b : Below w13.heap.size w13 (w13.alloc (.cells #[.int .i64 1, .int .i64 0, .slice AK 8 cK] 44)) := below_alloc (Below.refl _ _) _
  have k8 := C44_cells [((⟨1, 0, kept17.take 8⟩ : S44), AK, cK)] (blk_new w13 (.cells #[.int .i64 1, .int .i64 0, .slice AK 8 cK] 44)) (by intro p hp; simp only [List.mem_cons, List.not_mem_nil, or_false] at hp; subst hp; exact ⟨Nat.le_trans (show (kept17.take 8).length ≤ 17 by decide) HCK.out, Kd.C_below (Kd.C_take KK.out (by decide)) b⟩) (by simp)
  have K8 := hd k8
  clear k8
  replace KM := hd (Kd.C_below KM.out b)
  replace KK := hd (Kd.C_below KK.out b)
  replace HB : Hd (Below w.heap.size w (w13.alloc (.cells #[.int .i64 1, .int .i64 0, .slice AK 8 cK] 44))) := hd (below_then HB.out HB.out.size b)
  clear b
  generalize w13.alloc (.cells #[.int .i64 1, .int .i64 0, .slice AK 8 cK] 44) = w14 at KM KK K8 HB ⊢
  refine (right_any _ 1 [⟨1, 0, kept17.take 8⟩] w14 K8.out).mono ?_
  rintro e w15 ⟨rfl, b⟩
  rw [right_kept]
  clear K8 hcut
  replace KM := hd (Kd.C_below KM.out b)
  replace KK := hd (Kd.C_below KK.out b)
  replace HB : Hd (Below w.heap.size w w15) := hd (below_then HB.out HB.out.size b)
  clear b
  go_wp2_with fail
  refine reg42o (by kernel_rfl) (.slice AM many17.length cM) AK cK (by rfl) (by rfl) (by rfl) ⟨AM, cM, rfl, HCM.out, KM.out⟩ KK.out HCK.out ?_
  intro x0 x1 x2 x3 x4 x5 x6 x7 x8 x9 x10 x11 x12 x13 x14 x15 x16 x17 x18 x19 g vs WN b hg hvs
  simp only [List.take_succ_cons, List.take_zero, List.drop_succ_cons, List.drop_zero, List.cons_append, List.nil_append]
  have HXG := hd hg
  have HVS := hd hvs
  replace HB : Hd (Below w.heap.size w WN) := hd (below_then HB.out HB.out.size b)
  clear b hg hvs KM KK HCM HCK
  go_wp2_with fail
  go_loopg [300] 8 (fun kq v300 w' => ∃ (q : Nat), Hd (kq + q = 8) ∧ v300 = .int .i64 (q : Int) ∧ Hd (w'.heap[g]? = some (.cells #[vs 0, vs 1, vs 2, vs 3, vs 4, vs 5, vs 6, vs 7] 22 (0, 0))) ∧ Hd (∀ j, j < 8 → rd44 (vs j) w' (listX j)) ∧ Hd (Below w.heap.size w w'))
  case atStart => exact ⟨0, hd (by omega), rfl, HXG, HVS, HB⟩
  clear HB HXG HVS
  obtain ⟨q, HI, rfl, HXG, HVS, HB⟩ := hrel
  by_cases hq : q < 8
  · have c1 : decide ((q : Int) < 8) = true := decide_eq_true (by omega)
    obtain ⟨Aq, cq, eq, hcq, kq⟩ := HVS.out q hq
    have e0 := (vs_cell HXG.out q hq).trans (congrArg some eq)
    have KQ := hd kq
    have HCQ := hd hcq
    have p0 : (0 ≤ (q : Int)) = True := eq_true (by omega)
    have p1 : ((q : Int) < 8) = True := eq_true (by omega)
    clear hcq kq eq
    go_wp2_with fail
    refine (session_Look.calls Aq cq (listX q) 1 1 0 [] 0 [] 2 _ KQ.out HCQ.out (list_X q hq).2).mono ?_
    rintro e w2 ⟨v1, v2, rfl, r1, r2, b⟩
    replace KQ := hd (Kd.C_below KQ.out b)
    replace HXG := hd (blk_below HXG.out b)
    replace HVS : Hd (∀ j, j < 8 → rd44 (vs j) w2 (listX j)) := hd (fun j hj => (HVS.out j hj).below b)
    replace HB : Hd (Below w.heap.size w w2) := hd (below_then HB.out HB.out.size b)
    clear r1 r2 b e0
    go_wp2_with fail
    refine (right_any Aq cq (listX q) _ KQ.out).mono ?_
    rintro e w3 ⟨rfl, b⟩
    rw [(list_X q hq).1]
    replace HXG := hd (blk_below HXG.out b)
    replace HVS : Hd (∀ j, j < 8 → rd44 (vs j) w3 (listX j)) := hd (fun j hj => (HVS.out j hj).below b)
    replace HB : Hd (Below w.heap.size w w3) := hd (below_then HB.out HB.out.size b)
    clear b KQ HCQ
    go_wp2_with fail
    have c4 : wrap64 ((q : Int) + 1) = ((q + 1 : Nat) : Int) := by unfold wrap64; omega
    go_roundg (7 - q)
    case measure => have := HI.out; omega
    case rel => exact ⟨q + 1, hd (by have := HI.out; omega), by first | rfl | exact congrArg (Value.int .i64) c4 | exact congrArg (Value.int .i64) (show (q : Int) + 1 = ((q + 1 : Nat) : Int) by omega), HXG, HVS, HB⟩
  have hq8 : q = 8 := by have := HI.out; omega
  subst hq8
  have c1 : decide (((8 : Nat) : Int) < 8) = false := decide_eq_false (by omega)
  clear HXG HVS hq HI
  go_wp2_with fail
  refine (session_Begin.calls 5 5 1 0 (waitL 0) 0 wr begin_5).mono ?_
  rintro e w16 ⟨v, rfl, rs, b⟩
  have HRS := hd (Kd.R_bound (Kd.S_R rs))
  clear rs
  obtain ⟨A, c, rfl⟩ := Kd.R_slice HRS.out
  replace HB : Hd (Below w.heap.size w w16) := hd (below_then HB.out HB.out.size b)
  clear b
  go_wp2_with (first | ((with_reducible refine gate_dst (N := 52) rfl ?_); refine box_event ?hg (N := 52) ?hd (cs := #[.int .i64 0, .int .i64 0, .int .i64 0, .slice none 0 0]) (t := 50) ?hr ?_; (case hd => rfl); (case hg => rfl); (case hr => first | (go_simp; done) | (go_simp; rfl)); intro g52 hg w17 hbox hb; have HGN := hd hg; have HPN := hd hbox; have HBN := hd hb; clear hg hbox hb) | ((with_reducible refine gate_store (t := 50) (p := 52) rfl ?_); refine wpList_store_row rfl 50 (.tmp 52) (.tmp 320) rfl g52 #[.int .i64 5, .int .i64 1, .int .i64 0, .slice A (waitL 0).length c] rfl rfl 50 _ HPN.out (by kernel_rfl) rfl (by simp [Value.oneCell']) ?_; refine holdN ?_))
  refine ⟨?_⟩
  have b : Below w16.heap.size w16 (w17.setRow g52 #[.int .i64 5, .int .i64 1, .int .i64 0, .slice A (waitL 0).length c]) := below_setRow HBN.out (Nat.le_of_eq HGN.out.symm) _
  have HX52 := hd (setRow_heap w17 g52 _ #[.int .i64 5, .int .i64 1, .int .i64 0, .slice A (waitL 0).length c] 50 (0, 0) HPN.out)
  have HRN : Hd (RN _ g52 _ _) := hd (RN_old HRS.out b HGN.out)
  have HG52 : Hd (w.heap.size ≤ g52) := hd (by have h1 := HGN.out; have h2 := HB.out.size; omega)
  clear HRS
  clear HPN HBN HGN
  generalize w17.setRow g52 #[.int .i64 5, .int .i64 1, .int .i64 0, .slice A (waitL 0).length c] = w18 at b HX52 HRN ⊢
  replace HB : Hd (Below w.heap.size w w18) := hd (below_then HB.out HB.out.size b)
  clear b
  generalize hl0 : waitL 0 = l0 at HX52 HRN ⊢
  have HL0 := hd hl0
  clear hl0
  go_wp2_with fail
  go_loopg [54] 8 (fun kq v54 w' => ∃ (i : Nat) (l : List S70) (A : Option Addr) (c : Nat), Hd (kq + i = 8) ∧ Hd (waitL i = l) ∧ v54 = .int .i64 ((i : Int) + 1) ∧ Hd (w'.heap[g52]? = some (.cells #[.int .i64 5, .int .i64 ((i : Int) + 1), .int .i64 0, .slice A l.length c] 50 (0, 0))) ∧ Hd (RN w' g52 (.slice A l.length c) l) ∧ Hd (Below w.heap.size w w'))
  case atStart => exact ⟨0, l0, A, c, hd (by omega), HL0, rfl, HX52, HRN, HB⟩
  clear HB HX52 HRN HL0
  obtain ⟨i, l, A', c', HI, HL, rfl, HX52, HRN, HB⟩ := hrel
  by_cases hi : i < 8
  · have c1 : decide ((i : Int) + 1 ≤ 8) = true := decide_eq_true (by omega)
    have hak := ask_i i hi
    rw [HL.out] at hak
    have q0 := (blk_cell HX52.out 0).trans rfl
    have q1 := (blk_cell HX52.out 1).trans rfl
    have q2 := (blk_cell HX52.out 2).trans rfl
    have q3 := (blk_cell HX52.out 3).trans rfl
    obtain ⟨_, hc, hC⟩ := RN_reads HRN.out
    go_wp2_with fail
    refine (session_Ask.calls 100 5 ((i : Int) + 1) 0 A' c' l none 0 [] 5 ((i : Int) + 1 + 1) 0 (waitL (i + 1)) ((i : Int) + 1) 0 wr hC hc (show Kd.C (Kd.int .u8) _ none ([] : List Int).length [] from ⟨rfl, by simp, fun h => absurd h (by simp)⟩) (Nat.le_refl _) hak).mono ?_
    rintro e w19 ⟨v, rfl, rs, b⟩
    have HR1 := hd (RN_new rs (blk_lt HX52.out))
    clear rs q0 q1 q2 q3 hC hc HRN
    generalize hl1 : waitL (i + 1) = l1 at HR1
    have HL1 := hd hl1
    clear hl1 hak
    obtain ⟨A1, cc1, rfl⟩ := RN_slice HR1.out
    replace HX52 := hd (blk_below HX52.out b)
    replace HB : Hd (Below w.heap.size w w19) := hd (below_then HB.out HB.out.size b)
    clear b
    go_wp2_with (first | ((with_reducible refine gate_dst (N := 55) rfl ?_); refine box_event ?hg (N := 55) ?hd (cs := #[.int .i64 0, .int .i64 0, .int .i64 0, .slice none 0 0]) (t := 50) ?hr ?_; (case hd => rfl); (case hg => rfl); (case hr => first | (go_simp; done) | (go_simp; rfl)); intro g55 hg w20 hbox hb; have HGN := hd hg; have HPN := hd hbox; have HBN := hd hb; clear hg hbox hb) | ((with_reducible refine gate_store (t := 50) (p := 55) rfl ?_); refine wpList_store_row rfl 50 (.tmp 55) (.tmp 329) rfl g55 #[.int .i64 5, .int .i64 ((i : Int) + 1 + 1), .int .i64 0, .slice A1 l1.length cc1] rfl rfl 50 _ HPN.out (by kernel_rfl) rfl (by simp [Value.oneCell']) ?_; refine holdN ?_))
    refine ⟨?_⟩
    have b : Below w19.heap.size w19 (w20.setRow g55 #[.int .i64 5, .int .i64 ((i : Int) + 1 + 1), .int .i64 0, .slice A1 l1.length cc1]) := below_setRow HBN.out (Nat.le_of_eq HGN.out.symm) _
    have HX55 := hd (setRow_heap w20 g55 _ #[.int .i64 5, .int .i64 ((i : Int) + 1 + 1), .int .i64 0, .slice A1 l1.length cc1] 50 (0, 0) HPN.out)
    clear HPN HBN HGN
    generalize w20.setRow g55 #[.int .i64 5, .int .i64 ((i : Int) + 1 + 1), .int .i64 0, .slice A1 l1.length cc1] = w21 at b HX55  ⊢
    replace HX52 := hd (blk_below HX52.out b)
    replace HR1 := hd (RN_below HR1.out b)
    replace HB : Hd (Below w.heap.size w w21) := hd (below_then HB.out HB.out.size b)
    clear b
    have q0 := (blk_cell HX55.out 0).trans rfl
    have q1 := (blk_cell HX55.out 1).trans rfl
    have q2 := (blk_cell HX55.out 2).trans rfl
    have q3 := (blk_cell HX55.out 3).trans rfl
    have c4 : wrap64 ((i : Int) + 1 + 1) = (i : Int) + 1 + 1 := by unfold wrap64; omega
    have c5 : wrap64 ((i : Int) + 1 + 1) = ((i + 1 : Nat) : Int) + 1 := by unfold wrap64; omega
    go_wp2_with ((with_reducible refine gate_store (t := 50) (p := 52) rfl ?_); refine wpList_store_row rfl 50 (.tmp 52) (.tmp 339) rfl g52 #[.int .i64 5, .int .i64 ((i : Int) + 1 + 1), .int .i64 0, .slice A1 l1.length cc1] rfl rfl 50 _ HX52.out (by kernel_rfl) rfl (by simp [Value.oneCell']) ?_; refine holdN ?_)
    refine ⟨?_⟩
    replace HX52 := hd (setRow_heap w21 g52 _ #[.int .i64 5, .int .i64 ((i : Int) + 1 + 1), .int .i64 0, .slice A1 l1.length cc1] 50 (0, 0) HX52.out)
    replace HB := hd (below_setRow HB.out HG52.out #[.int .i64 5, .int .i64 ((i : Int) + 1 + 1), .int .i64 0, .slice A1 l1.length cc1])
    replace HR1 := hd (RN_set HR1.out #[.int .i64 5, .int .i64 ((i : Int) + 1 + 1), .int .i64 0, .slice A1 l1.length cc1])
    generalize w21.setRow g52 #[.int .i64 5, .int .i64 ((i : Int) + 1 + 1), .int .i64 0, .slice A1 l1.length cc1] = w22 at HX52 HB HR1 ⊢
    clear q0 q1 q2 q3 HX55
    go_wp2_with fail
    go_roundg (7 - i)
    case measure => have := HI.out; omega
    case rel => exact ⟨i + 1, l1, A1, cc1, hd (by have := HI.out; omega), HL1, congrArg (Value.int .i64) (show (i : Int) + 1 + 1 = ((i + 1 : Nat) : Int) + 1 by omega), hd (by have h := HX52.out; rw [show (i : Int) + 1 + 1 = ((i + 1 : Nat) : Int) + 1 by omega] at h; exact h), HR1, HB⟩
  have hi8 : i = 8 := by have := HI.out; omega
  subst hi8
  have c1 : decide (((8 : Nat) : Int) + 1 ≤ 8) = false := decide_eq_false (by omega)
  have hl := HL.out
  clear hi HI HL
  subst hl
  replace HX52 : Hd (wr.heap[g52]? = some (.cells #[.int .i64 5, .int .i64 9, .int .i64 0, .slice A' (waitL 8).length c'] 50 (0, 0))) := HX52
  have q0 := (blk_cell HX52.out 0).trans rfl
  have q1 := (blk_cell HX52.out 1).trans rfl
  have q2 := (blk_cell HX52.out 2).trans rfl
  have q3 := (blk_cell HX52.out 3).trans rfl
  obtain ⟨_, hc, hC⟩ := RN_reads HRN.out
  go_wp2_with fail
  refine (session_Ask.calls 100 5 9 0 A' c' (waitL 8) none 0 [] 0 0 0 [] 0 7 wr hC hc (show Kd.C (Kd.int .u8) _ none ([] : List Int).length [] from ⟨rfl, by simp, fun h => absurd h (by simp)⟩) (Nat.le_refl _) ask_full).mono ?_
  rintro e w23 ⟨v, rfl, rs, b⟩
  clear q0 q1 q2 q3 hC hc
  generalize ([] : List S70) = lz at rs
  obtain ⟨Ab, cb, rfl, _, _⟩ := Kd.R_reads (Kd.S_R rs)
  clear rs
  replace HX52 := hd (blk_below HX52.out b)
  replace HRN := hd (RN_below HRN.out b)
  replace HB : Hd (Below w.heap.size w w23) := hd (below_then HB.out HB.out.size b)
  clear b
  go_wp2_with (first | ((with_reducible refine gate_dst (N := 58) rfl ?_); refine box_event ?hg (N := 58) ?hd (cs := #[.int .i64 0, .int .i64 0, .int .i64 0, .slice none 0 0]) (t := 50) ?hr ?_; (case hd => rfl); (case hg => rfl); (case hr => first | (go_simp; done) | (go_simp; rfl)); intro g58 hg w24 hbox hb; have HGN := hd hg; have HPN := hd hbox; have HBN := hd hb; clear hg hbox hb) | ((with_reducible refine gate_store (t := 50) (p := 58) rfl ?_); refine wpList_store_row rfl 50 (.tmp 58) (.tmp 343) rfl g58 #[.int .i64 0, .int .i64 0, .int .i64 0, .slice Ab lz.length cb] rfl rfl 50 _ HPN.out (by kernel_rfl) rfl (by simp [Value.oneCell']) ?_; refine holdN ?_))
  refine ⟨?_⟩
  have b : Below w23.heap.size w23 (w24.setRow g58 #[.int .i64 0, .int .i64 0, .int .i64 0, .slice Ab lz.length cb]) := below_setRow HBN.out (Nat.le_of_eq HGN.out.symm) _
  have HX58 := hd (setRow_heap w24 g58 _ #[.int .i64 0, .int .i64 0, .int .i64 0, .slice Ab lz.length cb] 50 (0, 0) HPN.out)
  clear HPN HBN HGN
  generalize w24.setRow g58 #[.int .i64 0, .int .i64 0, .int .i64 0, .slice Ab lz.length cb] = w25 at b HX58  ⊢
  replace HX52 := hd (blk_below HX52.out b)
  replace HRN := hd (RN_below HRN.out b)
  replace HB : Hd (Below w.heap.size w w25) := hd (below_then HB.out HB.out.size b)
  clear b
  clear HX58
  have q0 := (blk_cell HX52.out 0).trans rfl
  have q1 := (blk_cell HX52.out 1).trans rfl
  have q2 := (blk_cell HX52.out 2).trans rfl
  have q3 := (blk_cell HX52.out 3).trans rfl
  go_wp2_with fail
  obtain ⟨_, hc, hC⟩ := RN_reads HRN.out
  have hT := take_R 5 9 0 2 A' c' (waitL 8) 100 w25 hC hc (by constructor <;> omega) (by constructor <;> omega) (by rw [show (waitL 8).length = 8 from rfl]; omega) waits_8
  rw [take_2] at hT
  dsimp only at hT
  refine hT.mono ?_
  clear hT
  rintro e w26 ⟨A26, c26, rfl, hrt, b⟩
  have HRT := hd (RN_take hrt (blk_lt HX52.out))
  clear hrt q0 q1 q2 q3 hC hc
  clear HRN
  replace HX52 := hd (blk_below HX52.out b)
  replace HB : Hd (Below w.heap.size w w26) := hd (below_then HB.out HB.out.size b)
  clear b
  go_wp2_with ((with_reducible refine gate_store (t := 50) (p := 52) rfl ?_); refine wpList_store_row rfl 50 (.tmp 52) (.tmp 349) rfl g52 #[.int .i64 5, .int .i64 9, .int .i64 0, .slice A26 waitM.length c26] rfl rfl 50 _ HX52.out (by kernel_rfl) rfl (by simp [Value.oneCell']) ?_; refine holdN ?_)
  refine ⟨?_⟩
  replace HX52 := hd (setRow_heap w26 g52 _ #[.int .i64 5, .int .i64 9, .int .i64 0, .slice A26 waitM.length c26] 50 (0, 0) HX52.out)
  replace HB := hd (below_setRow HB.out HG52.out #[.int .i64 5, .int .i64 9, .int .i64 0, .slice A26 waitM.length c26])
  replace HRT := hd (RN_set HRT.out #[.int .i64 5, .int .i64 9, .int .i64 0, .slice A26 waitM.length c26])
  generalize w26.setRow g52 #[.int .i64 5, .int .i64 9, .int .i64 0, .slice A26 waitM.length c26] = w27 at HX52 HB HRT ⊢
  have HRN := HRT
  clear HRT
  have q0 := (blk_cell HX52.out 0).trans rfl
  have q1 := (blk_cell HX52.out 1).trans rfl
  have q2 := (blk_cell HX52.out 2).trans rfl
  have q3 := (blk_cell HX52.out 3).trans rfl
  obtain ⟨_, hc, hC⟩ := RN_reads HRN.out
  go_wp2_with fail
  refine (session_Ask.calls 100 5 9 0 A26 c26 waitM none 0 [] 0 0 0 [] 0 7 w27 hC hc (show Kd.C (Kd.int .u8) _ none ([] : List Int).length [] from ⟨rfl, by simp, fun h => absurd h (by simp)⟩) (Nat.le_refl _) ask_M).mono ?_
  rintro e w28 ⟨v, rfl, rs, b⟩
  clear q0 q1 q2 q3 hC hc
  generalize ([] : List S70) = lz at rs
  obtain ⟨Ab, cb, rfl, _, _⟩ := Kd.R_reads (Kd.S_R rs)
  clear rs
  replace HX52 := hd (blk_below HX52.out b)
  replace HRN := hd (RN_below HRN.out b)
  replace HB : Hd (Below w.heap.size w w28) := hd (below_then HB.out HB.out.size b)
  clear b
  go_wp2_with (first | ((with_reducible refine gate_dst (N := 63) rfl ?_); refine box_event ?hg (N := 63) ?hd (cs := #[.int .i64 0, .int .i64 0, .int .i64 0, .slice none 0 0]) (t := 50) ?hr ?_; (case hd => rfl); (case hg => rfl); (case hr => first | (go_simp; done) | (go_simp; rfl)); intro g63 hg w29 hbox hb; have HGN := hd hg; have HPN := hd hbox; have HBN := hd hb; clear hg hbox hb) | ((with_reducible refine gate_store (t := 50) (p := 63) rfl ?_); refine wpList_store_row rfl 50 (.tmp 63) (.tmp 355) rfl g63 #[.int .i64 0, .int .i64 0, .int .i64 0, .slice Ab lz.length cb] rfl rfl 50 _ HPN.out (by kernel_rfl) rfl (by simp [Value.oneCell']) ?_; refine holdN ?_))
  refine ⟨?_⟩
  have b : Below w28.heap.size w28 (w29.setRow g63 #[.int .i64 0, .int .i64 0, .int .i64 0, .slice Ab lz.length cb]) := below_setRow HBN.out (Nat.le_of_eq HGN.out.symm) _
  have HX63 := hd (setRow_heap w29 g63 _ #[.int .i64 0, .int .i64 0, .int .i64 0, .slice Ab lz.length cb] 50 (0, 0) HPN.out)
  clear HPN HBN HGN
  generalize w29.setRow g63 #[.int .i64 0, .int .i64 0, .int .i64 0, .slice Ab lz.length cb] = w30 at b HX63  ⊢
  replace HX52 := hd (blk_below HX52.out b)
  replace HRN := hd (RN_below HRN.out b)
  replace HB : Hd (Below w.heap.size w w30) := hd (below_then HB.out HB.out.size b)
  clear b
  clear HX63
  have q0 := (blk_cell HX52.out 0).trans rfl
  have q1 := (blk_cell HX52.out 1).trans rfl
  have q2 := (blk_cell HX52.out 2).trans rfl
  have q3 := (blk_cell HX52.out 3).trans rfl
  go_wp2_with fail
  obtain ⟨_, hc, hC⟩ := RN_reads HRN.out
  have hT := take_R 5 9 0 2 A26 c26 waitM 100 w30 hC hc (by constructor <;> omega) (by constructor <;> omega) (by rw [show waitM.length = 7 from rfl]; omega) waits_M
  rw [take_M2] at hT
  dsimp only at hT
  refine hT.mono ?_
  clear hT
  rintro e w31 ⟨A31, c31, rfl, hrt, b⟩
  have HRT := hd (RN_take hrt (blk_lt HX52.out))
  clear hrt q0 q1 q2 q3 hC hc
  clear HRT
  replace HX52 := hd (blk_below HX52.out b)
  replace HRN := hd (RN_below HRN.out b)
  replace HB : Hd (Below w.heap.size w w31) := hd (below_then HB.out HB.out.size b)
  clear b
  go_wp2_with (first | ((with_reducible refine gate_dst (N := 66) rfl ?_); refine box_event ?hg (N := 66) ?hd (cs := #[.int .i64 0, .int .i64 0, .int .i64 0, .slice none 0 0]) (t := 50) ?hr ?_; (case hd => rfl); (case hg => rfl); (case hr => first | (go_simp; done) | (go_simp; rfl)); intro g66 hg w32 hbox hb; have HGN := hd hg; have HPN := hd hbox; have HBN := hd hb; clear hg hbox hb) | ((with_reducible refine gate_store (t := 50) (p := 66) rfl ?_); refine wpList_store_row rfl 50 (.tmp 66) (.tmp 361) rfl g66 #[.int .i64 5, .int .i64 9, .int .i64 0, .slice A31 waitM.length c31] rfl rfl 50 _ HPN.out (by kernel_rfl) rfl (by simp [Value.oneCell']) ?_; refine holdN ?_))
  refine ⟨?_⟩
  have b : Below w31.heap.size w31 (w32.setRow g66 #[.int .i64 5, .int .i64 9, .int .i64 0, .slice A31 waitM.length c31]) := below_setRow HBN.out (Nat.le_of_eq HGN.out.symm) _
  have HX66 := hd (setRow_heap w32 g66 _ #[.int .i64 5, .int .i64 9, .int .i64 0, .slice A31 waitM.length c31] 50 (0, 0) HPN.out)
  clear HPN HBN HGN
  generalize w32.setRow g66 #[.int .i64 5, .int .i64 9, .int .i64 0, .slice A31 waitM.length c31] = w33 at b HX66  ⊢
  replace HX52 := hd (blk_below HX52.out b)
  replace HRN := hd (RN_below HRN.out b)
  replace HB : Hd (Below w.heap.size w w33) := hd (below_then HB.out HB.out.size b)
  clear b
  clear HX66
  have q0 := (blk_cell HX52.out 0).trans rfl
  have q1 := (blk_cell HX52.out 1).trans rfl
  have q2 := (blk_cell HX52.out 2).trans rfl
  have q3 := (blk_cell HX52.out 3).trans rfl
  go_wp2_with fail
  obtain ⟨_, hc, hC⟩ := RN_reads HRN.out
  have hT := take_R 5 9 0 1 A26 c26 waitM 100 w33 hC hc (by constructor <;> omega) (by constructor <;> omega) (by rw [show waitM.length = 7 from rfl]; omega) waits_M
  rw [take_M1] at hT
  dsimp only at hT
  refine hT.mono ?_
  clear hT
  rintro e w34 ⟨A34, c34, rfl, hrt, b⟩
  have HRT := hd (RN_take hrt (blk_lt HX52.out))
  clear hrt q0 q1 q2 q3 hC hc
  clear HRN
  replace HX52 := hd (blk_below HX52.out b)
  replace HB : Hd (Below w.heap.size w w34) := hd (below_then HB.out HB.out.size b)
  clear b
  go_wp2_with ((with_reducible refine gate_store (t := 50) (p := 52) rfl ?_); refine wpList_store_row rfl 50 (.tmp 52) (.tmp 367) rfl g52 #[.int .i64 5, .int .i64 9, .int .i64 2, .slice A34 waitN.length c34] rfl rfl 50 _ HX52.out (by kernel_rfl) rfl (by simp [Value.oneCell']) ?_; refine holdN ?_)
  refine ⟨?_⟩
  replace HX52 := hd (setRow_heap w34 g52 _ #[.int .i64 5, .int .i64 9, .int .i64 2, .slice A34 waitN.length c34] 50 (0, 0) HX52.out)
  replace HB := hd (below_setRow HB.out HG52.out #[.int .i64 5, .int .i64 9, .int .i64 2, .slice A34 waitN.length c34])
  replace HRT := hd (RN_set HRT.out #[.int .i64 5, .int .i64 9, .int .i64 2, .slice A34 waitN.length c34])
  generalize w34.setRow g52 #[.int .i64 5, .int .i64 9, .int .i64 2, .slice A34 waitN.length c34] = w35 at HX52 HB HRT ⊢
  have HRN := HRT
  clear HRT
  have q0 := (blk_cell HX52.out 0).trans rfl
  have q1 := (blk_cell HX52.out 1).trans rfl
  have q2 := (blk_cell HX52.out 2).trans rfl
  have q3 := (blk_cell HX52.out 3).trans rfl
  obtain ⟨_, hc, hC⟩ := RN_reads HRN.out
  go_wp2_with fail
  refine (session_Ask.calls 100 5 9 2 A34 c34 waitN none 0 [] 5 10 2 (waitN ++ [⟨9, []⟩]) 9 0 w35 hC hc (show Kd.C (Kd.int .u8) _ none ([] : List Int).length [] from ⟨rfl, by simp, fun h => absurd h (by simp)⟩) (Nat.le_refl _) ask_N).mono ?_
  rintro e w36 ⟨v, rfl, rs, b⟩
  clear q0 q1 q2 q3 hC hc
  generalize ((waitN ++ [⟨9, []⟩]) : List S70) = lz at rs
  obtain ⟨Ab, cb, rfl, _, _⟩ := Kd.R_reads (Kd.S_R rs)
  clear rs
  replace HX52 := hd (blk_below HX52.out b)
  replace HRN := hd (RN_below HRN.out b)
  replace HB : Hd (Below w.heap.size w w36) := hd (below_then HB.out HB.out.size b)
  clear b
  go_wp2_with (first | ((with_reducible refine gate_dst (N := 71) rfl ?_); refine box_event ?hg (N := 71) ?hd (cs := #[.int .i64 0, .int .i64 0, .int .i64 0, .slice none 0 0]) (t := 50) ?hr ?_; (case hd => rfl); (case hg => rfl); (case hr => first | (go_simp; done) | (go_simp; rfl)); intro g71 hg w37 hbox hb; have HGN := hd hg; have HPN := hd hbox; have HBN := hd hb; clear hg hbox hb) | ((with_reducible refine gate_store (t := 50) (p := 71) rfl ?_); refine wpList_store_row rfl 50 (.tmp 71) (.tmp 373) rfl g71 #[.int .i64 5, .int .i64 10, .int .i64 2, .slice Ab lz.length cb] rfl rfl 50 _ HPN.out (by kernel_rfl) rfl (by simp [Value.oneCell']) ?_; refine holdN ?_))
  refine ⟨?_⟩
  have b : Below w36.heap.size w36 (w37.setRow g71 #[.int .i64 5, .int .i64 10, .int .i64 2, .slice Ab lz.length cb]) := below_setRow HBN.out (Nat.le_of_eq HGN.out.symm) _
  have HX71 := hd (setRow_heap w37 g71 _ #[.int .i64 5, .int .i64 10, .int .i64 2, .slice Ab lz.length cb] 50 (0, 0) HPN.out)
  clear HPN HBN HGN
  generalize w37.setRow g71 #[.int .i64 5, .int .i64 10, .int .i64 2, .slice Ab lz.length cb] = w38 at b HX71  ⊢
  replace HX52 := hd (blk_below HX52.out b)
  replace HRN := hd (RN_below HRN.out b)
  replace HB : Hd (Below w.heap.size w w38) := hd (below_then HB.out HB.out.size b)
  clear b
  clear HX71
  go_wp2_with fail
  obtain ⟨_, hc, hC⟩ := RN_reads HRN.out
  refine reg63 (by kernel_rfl) g52 A34 c34 (by rfl) (by rfl) HX52.out hC hc ?_
  clear hc hC HRN
  intro x74 x376 x377 x378 x379 x380 x381 x382 w39 b
  simp only [List.take_succ_cons, List.take_zero, List.drop_succ_cons, List.drop_zero, List.cons_append, List.nil_append]
  replace HX52 := hd (blk_below HX52.out b)
  replace HB : Hd (Below w.heap.size w w39) := hd (below_then HB.out HB.out.size b)
  clear b
  go_wp2_with fail
  refine (session_Begin.calls 0 0 0 0 [] 2 w39 begin_0).mono ?_
  rintro e w40 ⟨v, rfl, rs, b⟩
  obtain ⟨Ab, cb, rfl, _, _⟩ := Kd.R_reads (Kd.S_R rs)
  clear rs
  replace HX52 := hd (blk_below HX52.out b)
  replace HB : Hd (Below w.heap.size w w40) := hd (below_then HB.out HB.out.size b)
  clear b
  go_wp2_with (first | ((with_reducible refine gate_dst (N := 77) rfl ?_); refine box_event ?hg (N := 77) ?hd (cs := #[.int .i64 0, .int .i64 0, .int .i64 0, .slice none 0 0]) (t := 50) ?hr ?_; (case hd => rfl); (case hg => rfl); (case hr => first | (go_simp; done) | (go_simp; rfl)); intro g77 hg w41 hbox hb; have HGN := hd hg; have HPN := hd hbox; have HBN := hd hb; clear hg hbox hb) | ((with_reducible refine gate_store (t := 50) (p := 77) rfl ?_); refine wpList_store_row rfl 50 (.tmp 77) (.tmp 385) rfl g77 #[.int .i64 0, .int .i64 0, .int .i64 0, .slice Ab ([] : List S70).length cb] rfl rfl 50 _ HPN.out (by kernel_rfl) rfl (by simp [Value.oneCell']) ?_; refine holdN ?_))
  refine ⟨?_⟩
  have b : Below w40.heap.size w40 (w41.setRow g77 #[.int .i64 0, .int .i64 0, .int .i64 0, .slice Ab ([] : List S70).length cb]) := below_setRow HBN.out (Nat.le_of_eq HGN.out.symm) _
  have HX77 := hd (setRow_heap w41 g77 _ #[.int .i64 0, .int .i64 0, .int .i64 0, .slice Ab ([] : List S70).length cb] 50 (0, 0) HPN.out)
  clear HPN HBN HGN
  generalize w41.setRow g77 #[.int .i64 0, .int .i64 0, .int .i64 0, .slice Ab ([] : List S70).length cb] = w42 at b HX77  ⊢
  replace HX52 := hd (blk_below HX52.out b)
  replace HB : Hd (Below w.heap.size w w42) := hd (below_then HB.out HB.out.size b)
  clear b
  clear HX77
  go_wp2_with fail
  refine (session_Ask.calls 100 1 2 0 none 0 [] none 0 [] 0 0 0 [] 0 2 w42 (show Kd.C k70 _ none ([] : List S70).length [] from ⟨rfl, by simp, fun h => absurd h (by simp)⟩) (Nat.le_refl _) (show Kd.C (Kd.int .u8) _ none ([] : List Int).length [] from ⟨rfl, by simp, fun h => absurd h (by simp)⟩) (Nat.le_refl _) ask_12).mono ?_
  rintro e w43 ⟨v, rfl, rs, b⟩
  obtain ⟨Ab, cb, rfl, _, _⟩ := Kd.R_reads (Kd.S_R rs)
  clear rs
  replace HX52 := hd (blk_below HX52.out b)
  replace HB : Hd (Below w.heap.size w w43) := hd (below_then HB.out HB.out.size b)
  clear b
  go_wp2_with (first | ((with_reducible refine gate_dst (N := 79) rfl ?_); refine box_event ?hg (N := 79) ?hd (cs := #[.int .i64 0, .int .i64 0, .int .i64 0, .slice none 0 0]) (t := 50) ?hr ?_; (case hd => rfl); (case hg => rfl); (case hr => first | (go_simp; done) | (go_simp; rfl)); intro g79 hg w44 hbox hb; have HGN := hd hg; have HPN := hd hbox; have HBN := hd hb; clear hg hbox hb) | ((with_reducible refine gate_store (t := 50) (p := 79) rfl ?_); refine wpList_store_row rfl 50 (.tmp 79) (.tmp 390) rfl g79 #[.int .i64 0, .int .i64 0, .int .i64 0, .slice Ab ([] : List S70).length cb] rfl rfl 50 _ HPN.out (by kernel_rfl) rfl (by simp [Value.oneCell']) ?_; refine holdN ?_))
  refine ⟨?_⟩
  have b : Below w43.heap.size w43 (w44.setRow g79 #[.int .i64 0, .int .i64 0, .int .i64 0, .slice Ab ([] : List S70).length cb]) := below_setRow HBN.out (Nat.le_of_eq HGN.out.symm) _
  have HX79 := hd (setRow_heap w44 g79 _ #[.int .i64 0, .int .i64 0, .int .i64 0, .slice Ab ([] : List S70).length cb] 50 (0, 0) HPN.out)
  clear HPN HBN HGN
  generalize w44.setRow g79 #[.int .i64 0, .int .i64 0, .int .i64 0, .slice Ab ([] : List S70).length cb] = w45 at b HX79  ⊢
  replace HX52 := hd (blk_below HX52.out b)
  replace HB : Hd (Below w.heap.size w w45) := hd (below_then HB.out HB.out.size b)
  clear b
  clear HX79
  go_wp2_with (first | ((with_reducible refine gate_dst (N := 82) rfl ?_); refine box_event ?hg (N := 82) ?hd (cs := #[.int .i64 0, .int .i64 0, .int .i64 0, .slice none 0 0]) (t := 50) ?hr ?_; (case hd => rfl); (case hg => rfl); (case hr => first | (go_simp; done) | (go_simp; rfl)); intro g82 hg w46 hbox hb; have HGN := hd hg; have HPN := hd hbox; have HBN := hd hb; clear hg hbox hb) | ((with_reducible refine gate_store (t := 50) (p := 82) rfl ?_); refine wpList_store_row rfl 50 (.tmp 82) (.tmp 393) rfl g82 #[.int .i64 1, .int .i64 4611686018427387904, .int .i64 4611686018427387903, .slice none 0 0] rfl rfl 50 _ HPN.out (by kernel_rfl) rfl (by simp [Value.oneCell']) ?_; refine holdN ?_))
  refine ⟨?_⟩
  have b : Below w45.heap.size w45 (w46.setRow g82 #[.int .i64 1, .int .i64 4611686018427387904, .int .i64 4611686018427387903, .slice none 0 0]) := below_setRow HBN.out (Nat.le_of_eq HGN.out.symm) _
  have HX82 := hd (setRow_heap w46 g82 _ #[.int .i64 1, .int .i64 4611686018427387904, .int .i64 4611686018427387903, .slice none 0 0] 50 (0, 0) HPN.out)
  clear HPN HBN HGN
  generalize w46.setRow g82 #[.int .i64 1, .int .i64 4611686018427387904, .int .i64 4611686018427387903, .slice none 0 0] = w47 at b HX82  ⊢
  replace HX52 := hd (blk_below HX52.out b)
  replace HB : Hd (Below w.heap.size w w47) := hd (below_then HB.out HB.out.size b)
  clear b
  have q0 := (blk_cell HX82.out 0).trans rfl
  have q1 := (blk_cell HX82.out 1).trans rfl
  have q2 := (blk_cell HX82.out 2).trans rfl
  have q3 := (blk_cell HX82.out 3).trans rfl
  go_wp2_with fail
  refine (session_Ask.calls 100 1 4611686018427387904 4611686018427387903 none 0 [] none 0 [] 0 0 0 [] 0 5 w47 (show Kd.C k70 _ none ([] : List S70).length [] from ⟨rfl, by simp, fun h => absurd h (by simp)⟩) (Nat.le_refl _) (show Kd.C (Kd.int .u8) _ none ([] : List Int).length [] from ⟨rfl, by simp, fun h => absurd h (by simp)⟩) (Nat.le_refl _) ask_end).mono ?_
  rintro e w48 ⟨v, rfl, rs, b⟩
  obtain ⟨Ab, cb, rfl, _, _⟩ := Kd.R_reads (Kd.S_R rs)
  clear rs
  replace HX52 := hd (blk_below HX52.out b)
  replace HX82 := hd (blk_below HX82.out b)
  replace HB : Hd (Below w.heap.size w w48) := hd (below_then HB.out HB.out.size b)
  clear b
  clear q0 q1 q2 q3
  go_wp2_with (first | ((with_reducible refine gate_dst (N := 83) rfl ?_); refine box_event ?hg (N := 83) ?hd (cs := #[.int .i64 0, .int .i64 0, .int .i64 0, .slice none 0 0]) (t := 50) ?hr ?_; (case hd => rfl); (case hg => rfl); (case hr => first | (go_simp; done) | (go_simp; rfl)); intro g83 hg w49 hbox hb; have HGN := hd hg; have HPN := hd hbox; have HBN := hd hb; clear hg hbox hb) | ((with_reducible refine gate_store (t := 50) (p := 83) rfl ?_); refine wpList_store_row rfl 50 (.tmp 83) (.tmp 397) rfl g83 #[.int .i64 0, .int .i64 0, .int .i64 0, .slice Ab ([] : List S70).length cb] rfl rfl 50 _ HPN.out (by kernel_rfl) rfl (by simp [Value.oneCell']) ?_; refine holdN ?_))
  refine ⟨?_⟩
  have b : Below w48.heap.size w48 (w49.setRow g83 #[.int .i64 0, .int .i64 0, .int .i64 0, .slice Ab ([] : List S70).length cb]) := below_setRow HBN.out (Nat.le_of_eq HGN.out.symm) _
  have HX83 := hd (setRow_heap w49 g83 _ #[.int .i64 0, .int .i64 0, .int .i64 0, .slice Ab ([] : List S70).length cb] 50 (0, 0) HPN.out)
  clear HPN HBN HGN
  generalize w49.setRow g83 #[.int .i64 0, .int .i64 0, .int .i64 0, .slice Ab ([] : List S70).length cb] = w50 at b HX83  ⊢
  replace HX52 := hd (blk_below HX52.out b)
  replace HX82 := hd (blk_below HX82.out b)
  replace HB : Hd (Below w.heap.size w w50) := hd (below_then HB.out HB.out.size b)
  clear b
  clear HX83
  have q0 := (blk_cell HX82.out 0).trans rfl
  have q1 := (blk_cell HX82.out 1).trans rfl
  have q2 := (blk_cell HX82.out 2).trans rfl
  have q3 := (blk_cell HX82.out 3).trans rfl
  have t2 := (blk_cell HX52.out 2).trans rfl
  go_wp2_with fail
  refine (asker_any 1 4611686018427387904 4611686018427387903 none 0 [] w50 (show Kd.C k70 _ none ([] : List S70).length [] from ⟨rfl, by simp, fun h => absurd h (by simp)⟩) (Nat.le_refl _) (by constructor <;> omega)).mono ?_
  rintro e w51 ⟨rfl, b⟩
  rw [right_end]
  clear q0 q1 q2 q3 t2
  replace HX52 := hd (blk_below HX52.out b)
  replace HX82 := hd (blk_below HX82.out b)
  replace HB : Hd (Below w.heap.size w w51) := hd (below_then HB.out HB.out.size b)
  clear b
  go_wp2_with fail
  refine (awake_walk w51).mono ?_
  rintro e w52 ⟨rfl, b⟩
  replace HX52 := hd (blk_below HX52.out b)
  replace HX82 := hd (blk_below HX82.out b)
  replace HB : Hd (Below w.heap.size w w52) := hd (below_then HB.out HB.out.size b)
  clear b
  go_wp2_with fail
  go_ret
  exact ⟨rfl, HB.out⟩
def musterlaw09_SessionNumbers.f : Option Bool := some true
theorem musterlaw09_SessionNumbers.calls (r : Bool) (w : World) (h : musterlaw09_SessionNumbers.f = some r) : Calls Try.prog 5 #[] w fun e w' => e = .returned (.bool r) ∧ Below w.heap.size w w' := by
  cases h
  exact nums_walk w
end Go.Proofs.Ytafnjlgdjhegaaa.Pr
