/-
  musterlaw31.TableApart, by hand: two answers are looked through and told.
-/
import Derived.Test.YthlbdbaanlehhaaDoorPr4
import Derived.Test.YthlbdbaanlehhaaDoorPr9
import Derived.Test.YthlbdbaanlehhaaDoorQApart
import Derived.Test.YthlbdbaanlehhaaDoorG
namespace Go.Proofs.YthlbdbaanlehhaaDoor.Pr
open Go.RowKit Go.Proofs.YthlbdbaanlehhaaDoorW.PrintWords Go.Proofs.YthlbdbaanlehhaaDoorW.PrintLast Go.Proofs.YthlbdbaanlehhaaDoorW.PrintMore Go.Proofs.YthlbdbaanlehhaaDoorG
set_option linter.unusedVariables false
set_option linter.unusedSimpArgs false

def apartR.T14 : Bool × List (List Nat × List Nat) := (true, [([], []), ([0], [0]), ([], []), ([1, 2], [1, 2]), ([3], [3]), ([], []), ([5], [5]), ([], []), ([6, 7], [6, 7]), ([8], [8]), ([4, 9], [4, 9]), ([10, 0, 1, 2, 3, 4, 5, 6, 7, 8, 9, 10], [10])])
def apartR.B14 : List Nat := [0, 1, 0, 7, 15, 0, 32, 0, 224, 480, 1023, 2047]
theorem apartR.tab14 : rtab .any (opsOf Tryd.f3 14) = apartR.T14 := by kernel_rfl
theorem apartR.bits14 : waitsOk apartR.T14.2 apartR.B14 = true := by kernel_rfl
def apartR.T18 : Bool × List (List Nat × List Nat) := (true, [([], []), ([0], [0]), ([], []), ([1, 2], [1, 2]), ([3], [3]), ([], []), ([5], [5]), ([], []), ([6, 7], [6, 7]), ([8], [8]), ([4, 9], [4, 9]), ([10, 0, 1, 2, 3, 4, 5, 6, 7, 8, 9, 10], [10])])
def apartR.B18 : List Nat := [0, 1, 0, 7, 15, 0, 32, 0, 224, 480, 1023, 2047]
theorem apartR.tab18 : rtab .any (opsOf Tryd.f3 18) = apartR.T18 := by kernel_rfl
theorem apartR.bits18 : waitsOk apartR.T18.2 apartR.B18 = true := by kernel_rfl
def apartR.T22 : Bool × List (List Nat × List Nat) := (true, [([], []), ([0], [0]), ([], []), ([1, 2], [1, 2]), ([3], [3]), ([], []), ([5], [5]), ([], []), ([6, 7], [6, 7]), ([8], [8]), ([4, 9], [4, 9]), ([10, 0, 1, 2, 3, 4, 5, 6, 7, 8, 9, 10], [10])])
def apartR.B22 : List Nat := [0, 1, 0, 7, 15, 0, 32, 0, 224, 480, 1023, 2047]
theorem apartR.tab22 : rtab .any (opsOf Tryd.f3 22) = apartR.T22 := by kernel_rfl
theorem apartR.bits22 : waitsOk apartR.T22.2 apartR.B22 = true := by kernel_rfl
def apartR.T24 : Bool × List (List Nat × List Nat) := (true, [([], []), ([0], [0]), ([], []), ([2], [2]), ([1, 3], [1, 3]), ([], []), ([5], [5]), ([], []), ([7, 6], [7]), ([6, 8], [6, 8]), ([4, 9], [4, 9]), ([10, 8], [10]), ([11, 11], [11]), ([11, 12], [11, 12]), ([13, 12, 0, 1, 2, 3, 4, 5, 6, 7, 8, 9, 10, 11, 12, 13], [13])])
def apartR.B24 : List Nat := [0, 1, 0, 4, 15, 0, 32, 0, 224, 480, 1023, 2047, 4095, 8191, 16383]
theorem apartR.tab24 : rtab .any (opsOf Tryd.f3 24) = apartR.T24 := by kernel_rfl
theorem apartR.bits24 : waitsOk apartR.T24.2 apartR.B24 = true := by kernel_rfl
def apartR.T25 : Bool × List (List Nat × List Nat) := (true, [([], []), ([], []), ([1], [1]), ([], []), ([3, 2], [3]), ([2, 4], [2, 4]), ([0, 5], [0, 5]), ([6, 4], [6]), ([7, 7], [7]), ([7, 8], [7, 8]), ([9, 8, 0, 1, 2, 3, 4, 5, 6, 7, 8, 9], [9])])
def apartR.B25 : List Nat := [0, 0, 2, 0, 14, 30, 63, 127, 255, 511, 1023]
theorem apartR.tab25 : rtab .any (opsOf Tryd.f3 25) = apartR.T25 := by kernel_rfl
theorem apartR.bits25 : waitsOk apartR.T25.2 apartR.B25 = true := by kernel_rfl
theorem take_ok {l : List S31} {j : Nat} {x : S31} (h : ∀ o ∈ l.take j, okSt o) (hj : j < l.length) (hd : l.drop j = x :: l.drop (j + 1)) (hx : okSt x) : ∀ o ∈ l.take (j + 1), okSt o := by
  intro o ho
  have e : l.take (j + 1) = l.take j ++ [x] := by
    rw [List.take_add, hd]
    rfl
  rw [e] at ho
  rcases List.mem_append.1 ho with ho | ho
  · exact h o ho
  · rw [List.mem_singleton] at ho
    rw [ho]
    exact hx
theorem take_next {α : Type} {z : α} {l m : List α} {i : Nat} {x y : α} {t : Bool} (ht : t = true ↔ x = y) (h : l.take i = m.take i) (hl : i < l.length) (hm : i < m.length) (hx : l.getD i z = x) (hy : m.getD i z = y) : (t = true → l.take (i + 1) = m.take (i + 1)) ∧ (t = false → l ≠ m) := by
  constructor
  · intro e
    have e := ht.1 e
    rw [List.take_add, List.take_add, getD_drop l z i hl, getD_drop m z i hm, hx, hy, e, h]
    rfl
  · intro e h2
    have : ¬ x = y := fun h => by rw [ht.2 h] at e; cases e
    refine this ?_
    rw [← hx, ← hy, h2]
theorem take_whole {α : Type} {l m : List α} {i : Nat} (h : l.take i = m.take i) (hl : l.length ≤ i) (hm : m.length ≤ i) : l = m := by
  rwa [List.take_of_length_le hl, List.take_of_length_le hm] at h
theorem ans_beq_eq {a b : ByteArray} (h : a = b) : (a.toList == b.toList) = true := by rw [h]; exact beq_self_eq_true _
theorem ans_beq_ne {a b : ByteArray} (h : ¬ a = b) : (a.toList == b.toList) = false := beq_eq_false_iff_ne.mpr (fun e => h (ba_eq (by rw [← ByteArray.toList_eq, ← ByteArray.toList_eq]; exact e)))
theorem ite_two (a b c d : Int) (w : World) : (if a = b then (if c = d then (Result.ok (Next.value (Value.bool true)) w : Result Next) else Result.ok (Next.value (Value.bool false)) w) else Result.ok (Next.value (Value.bool false)) w) = Result.ok (Next.value (Value.bool (a == b && c == d))) w := by
  by_cases h : a = b <;> by_cases h2 : c = d <;> simp [h, h2]
theorem eq31 {x y : S31} : (x.f0 == y.f0 && x.f1 == y.f1) = true ↔ x = y := by
  cases x
  cases y
  simp
theorem eq36 {x y : S36} : (x.f0 == y.f0 && x.f1 == y.f1) = true ↔ x = y := by
  cases x
  cases y
  simp
set_option maxRecDepth 100000 in
set_option maxHeartbeats 8000000 in
theorem apart_walk (a0 : Int) (A1 : Option Addr) (c1 : Nat) (l1 : List Int) (A2 : Option Addr) (c2 : Nat) (l2 : List S31) (A3 : Option Addr) (c3 : Nat) (l3 : List S36)
    (b0 : Int) (B1 : Option Addr) (d1 : Nat) (m1 : List Int) (B2 : Option Addr) (d2 : Nat) (m2 : List S31) (B3 : Option Addr) (d3 : Nat) (m3 : List S36) (w : World) (tab_ : Tabs w)
    (hr1 : Kd.C (Kd.int .i64) w A1 l1.length l1) (hc1 : l1.length ≤ c1) (hr2 : Kd.C k31 w A2 l2.length l2) (hc2 : l2.length ≤ c2) (hr3 : Kd.C k36 w A3 l3.length l3) (hc3 : l3.length ≤ c3)
    (gr1 : Kd.C (Kd.int .i64) w B1 m1.length m1) (gc1 : m1.length ≤ d1) (gr2 : Kd.C k31 w B2 m2.length m2) (gc2 : m2.length ≤ d2) (gr3 : Kd.C k36 w B3 m3.length m3) (gc3 : m3.length ≤ d3)
    (ra rb : ByteArray) (KF : Nat) (hra : table_Answer.f KF a0 l1 l2 l3 = some ra) (hrb : table_Answer.f KF b0 m1 m2 m3 = some rb)
    (hsame : (∀ o ∈ l2, okSt o) → (∀ o ∈ m2, okSt o) → (ra = rb ↔ (a0 = b0 ∧ (a0 = 0 → l1 = m1 ∧ l2 = m2 ∧ l3 = m3)))) :
    Calls Tryd.prog 3 #[.agg #[.int .i64 a0, .slice A1 l1.length c1, .slice A2 l2.length c2, .slice A3 l3.length c3], .agg #[.int .i64 b0, .slice B1 m1.length d1, .slice B2 m2.length d2, .slice B3 m3.length d3]] w fun e w' => e = .returned (.bool true) ∧ Below w.heap.size w w' := by
  have hu27 := Tryd.underlying27
  have hu28 := Tryd.underlying28
  have hu31 := Tryd.underlying31
  have TAB_ := hd tab_
  have HRA := hd hra
  have HRB := hd hrb
  have HS := hd hsame
  have HR1 := hd hr1
  have HR2 := hd hr2
  have HR3 := hd hr3
  have GR1 := hd gr1
  have GR2 := hd gr2
  have GR3 := hd gr3
  have HC := hd (show (l1.length ≤ c1 ∧ l2.length ≤ c2 ∧ l3.length ≤ c3) ∧ (m1.length ≤ d1 ∧ m2.length ≤ d2 ∧ m3.length ≤ d3) from ⟨⟨hc1, hc2, hc3⟩, ⟨gc1, gc2, gc3⟩⟩)
  have HL := hd (show l1.length ≤ 9223372036854775807 ∧ l2.length ≤ 9223372036854775807 ∧ l3.length ≤ 9223372036854775807 ∧ m1.length ≤ 9223372036854775807 ∧ m2.length ≤ 9223372036854775807 ∧ m3.length ≤ 9223372036854775807 from ⟨hr1.2.1, hr2.2.1, hr3.2.1, gr1.2.1, gr2.2.1, gr3.2.1⟩)
  have HAW : Hd (∀ W : World, Tabs W → Calls Tryd.prog 9 #[] W fun e w' => e = .returned (.bool true) ∧ Below W.heap.size W w') := hd (fun W hW => by obtain ⟨K_, hK_⟩ := awake_ev; exact musterlaw31_awake.calls K_ true W hW (hK_ K_ (Nat.le_refl _)))
  clear tab_ hra hrb hsame hr1 hr2 hr3 gr1 gr2 gr3 hc1 hc2 hc3 gc1 gc2 gc3
  go_enter Tryd.func3, Tryd.ntmps3
  go_wp2
  have BA0 : Hd ((((w.alloc (.cells #[.int .i64 a0, .slice A1 l1.length c1, .slice A2 l2.length c2, .slice A3 l3.length c3] 27)).alloc (.cells #[.int .i64 b0, .slice B1 m1.length d1, .slice B2 m2.length d2, .slice B3 m3.length d3] 27)).alloc (.cells #[.int .i64 a0, .slice A1 l1.length c1, .slice A2 l2.length c2, .slice A3 l3.length c3, .int .i64 b0, .slice B1 m1.length d1, .slice B2 m2.length d2, .slice B3 m3.length d3] 27)).heap[w.heap.size]? = some (.cells #[.int .i64 a0, .slice A1 l1.length c1, .slice A2 l2.length c2, .slice A3 l3.length c3] 27 (0, 0))) := hd (blk_alloc (blk_alloc (blk_new w _) _) _)
  have BB0 : Hd ((((w.alloc (.cells #[.int .i64 a0, .slice A1 l1.length c1, .slice A2 l2.length c2, .slice A3 l3.length c3] 27)).alloc (.cells #[.int .i64 b0, .slice B1 m1.length d1, .slice B2 m2.length d2, .slice B3 m3.length d3] 27)).alloc (.cells #[.int .i64 a0, .slice A1 l1.length c1, .slice A2 l2.length c2, .slice A3 l3.length c3, .int .i64 b0, .slice B1 m1.length d1, .slice B2 m2.length d2, .slice B3 m3.length d3] 27)).heap[w.heap.size + 1]? = some (.cells #[.int .i64 b0, .slice B1 m1.length d1, .slice B2 m2.length d2, .slice B3 m3.length d3] 27 (0, 0))) := hd (blk_alloc (by have h := blk_new (w.alloc (.cells #[.int .i64 a0, .slice A1 l1.length c1, .slice A2 l2.length c2, .slice A3 l3.length c3] 27)) (.cells #[.int .i64 b0, .slice B1 m1.length d1, .slice B2 m2.length d2, .slice B3 m3.length d3] 27); rw [World.size_alloc] at h; exact h) _)
  have BS0 : Hd ((((w.alloc (.cells #[.int .i64 a0, .slice A1 l1.length c1, .slice A2 l2.length c2, .slice A3 l3.length c3] 27)).alloc (.cells #[.int .i64 b0, .slice B1 m1.length d1, .slice B2 m2.length d2, .slice B3 m3.length d3] 27)).alloc (.cells #[.int .i64 a0, .slice A1 l1.length c1, .slice A2 l2.length c2, .slice A3 l3.length c3, .int .i64 b0, .slice B1 m1.length d1, .slice B2 m2.length d2, .slice B3 m3.length d3] 27)).heap[w.heap.size + 1 + 1]? = some (.cells #[.int .i64 a0, .slice A1 l1.length c1, .slice A2 l2.length c2, .slice A3 l3.length c3, .int .i64 b0, .slice B1 m1.length d1, .slice B2 m2.length d2, .slice B3 m3.length d3] 27 (0, 0))) := hd (by have h := blk_new ((w.alloc (.cells #[.int .i64 a0, .slice A1 l1.length c1, .slice A2 l2.length c2, .slice A3 l3.length c3] 27)).alloc (.cells #[.int .i64 b0, .slice B1 m1.length d1, .slice B2 m2.length d2, .slice B3 m3.length d3] 27)) (.cells #[.int .i64 a0, .slice A1 l1.length c1, .slice A2 l2.length c2, .slice A3 l3.length c3, .int .i64 b0, .slice B1 m1.length d1, .slice B2 m2.length d2, .slice B3 m3.length d3] 27); rw [World.size_alloc, World.size_alloc] at h; exact h)
  have HB0 : Hd (Below w.heap.size w (((w.alloc (.cells #[.int .i64 a0, .slice A1 l1.length c1, .slice A2 l2.length c2, .slice A3 l3.length c3] 27)).alloc (.cells #[.int .i64 b0, .slice B1 m1.length d1, .slice B2 m2.length d2, .slice B3 m3.length d3] 27)).alloc (.cells #[.int .i64 a0, .slice A1 l1.length c1, .slice A2 l2.length c2, .slice A3 l3.length c3, .int .i64 b0, .slice B1 m1.length d1, .slice B2 m2.length d2, .slice B3 m3.length d3] 27))) := hd (below_alloc (below_alloc (below_alloc (Below.refl _ w) _) _) _)
  generalize World.alloc _ _ = w0 at BA0 BB0 BS0 HB0 ⊢
  go_loopw [16] (fun iv wr => ∃ i : Nat, i ≤ 2 ∧ iv = .int .i64 (i : Int) ∧ Hd (1 ≤ i → ∀ o ∈ l2, okSt o) ∧ Hd (2 ≤ i → ∀ o ∈ m2, okSt o) ∧ Hd (wr.heap[w.heap.size]? = some (.cells #[.int .i64 a0, .slice A1 l1.length c1, .slice A2 l2.length c2, .slice A3 l3.length c3] 27 (0, 0))) ∧ Hd (wr.heap[w.heap.size + 1]? = some (.cells #[.int .i64 b0, .slice B1 m1.length d1, .slice B2 m2.length d2, .slice B3 m3.length d3] 27 (0, 0))) ∧ Hd (wr.heap[w.heap.size + 1 + 1]? = some (.cells #[.int .i64 a0, .slice A1 l1.length c1, .slice A2 l2.length c2, .slice A3 l3.length c3, .int .i64 b0, .slice B1 m1.length d1, .slice B2 m2.length d2, .slice B3 m3.length d3] 27 (0, 0))) ∧ Hd (Below w.heap.size w wr)) (fun iv _ => 2 - (intOf iv).toNat)
  case atStart => exact ⟨0, by omega, rfl, hd (fun h => by omega), hd (fun h => by omega), BA0, BB0, BS0, HB0⟩
  case round =>
    obtain ⟨i, hi, rfl, HF1, HF2, BA, BB, BS, HB⟩ := hrel
    rcases (show i = 0 ∨ i = 1 ∨ i = 2 by omega) with rfl | rfl | rfl
    · clear HF1 HF2
      have q0 := (blk_cell BS.out 0).trans rfl
      have q1 := (blk_cell BS.out 1).trans rfl
      have q2 := (blk_cell BS.out 2).trans rfl
      have q3 := (blk_cell BS.out 3).trans rfl
      go_wp2
      have HX : Hd ((wr.alloc (.cells #[.int .i64 a0, .slice A1 l1.length c1, .slice A2 l2.length c2, .slice A3 l3.length c3] 27)).heap[wr.heap.size]? = some (.cells #[.int .i64 a0, .slice A1 l1.length c1, .slice A2 l2.length c2, .slice A3 l3.length c3] 27 (0, 0))) := hd (blk_new wr _)
      have BA2 := hd (blk_alloc BA.out (.cells #[.int .i64 a0, .slice A1 l1.length c1, .slice A2 l2.length c2, .slice A3 l3.length c3] 27))
      have BB2 := hd (blk_alloc BB.out (.cells #[.int .i64 a0, .slice A1 l1.length c1, .slice A2 l2.length c2, .slice A3 l3.length c3] 27))
      have BS2 := hd (blk_alloc BS.out (.cells #[.int .i64 a0, .slice A1 l1.length c1, .slice A2 l2.length c2, .slice A3 l3.length c3] 27))
      have HB2 := hd (below_alloc HB.out (.cells #[.int .i64 a0, .slice A1 l1.length c1, .slice A2 l2.length c2, .slice A3 l3.length c3] 27))
      clear BA BB BS HB q0 q1 q2 q3
      generalize wr.alloc _ = w1 at HX BA2 BB2 BS2 HB2 ⊢
      obtain ⟨gx, hgx⟩ : ∃ g, wr.heap.size = g := ⟨_, rfl⟩
      rw [hgx] at HX ⊢
      clear hgx
      go_loopw [7] (fun jv w2 => ∃ j : Nat, j ≤ l2.length ∧ jv = .int .i64 (j : Int) ∧ Hd (∀ o ∈ l2.take j, okSt o) ∧ Hd (w2.heap[w.heap.size]? = some (.cells #[.int .i64 a0, .slice A1 l1.length c1, .slice A2 l2.length c2, .slice A3 l3.length c3] 27 (0, 0))) ∧ Hd (w2.heap[w.heap.size + 1]? = some (.cells #[.int .i64 b0, .slice B1 m1.length d1, .slice B2 m2.length d2, .slice B3 m3.length d3] 27 (0, 0))) ∧ Hd (w2.heap[w.heap.size + 1 + 1]? = some (.cells #[.int .i64 a0, .slice A1 l1.length c1, .slice A2 l2.length c2, .slice A3 l3.length c3, .int .i64 b0, .slice B1 m1.length d1, .slice B2 m2.length d2, .slice B3 m3.length d3] 27 (0, 0))) ∧ Hd (w2.heap[gx]? = some (.cells #[.int .i64 a0, .slice A1 l1.length c1, .slice A2 l2.length c2, .slice A3 l3.length c3] 27 (0, 0))) ∧ Hd (Below w.heap.size w w2)) (fun jv _ => l2.length - (intOf jv).toNat)
      case atStart => exact ⟨0, by omega, rfl, hd (fun o ho => by simp at ho), BA2, BB2, BS2, HX, HB2⟩
      case round =>
        obtain ⟨j, hj, rfl, HF, BA, BB, BS, HX, HB⟩ := hrel
        have hlen : l2.length ≤ 9223372036854775807 := by have := HL.out; omega
        have x2 := (blk_cell HX.out 2).trans rfl
        by_cases hlt : j < l2.length
        · have hj1 : (j : Int) < (l2.length : Int) := by omega
          obtain ⟨ad, rfl, e0, e1⟩ := at_T31 (Kd.C_below HR2.out HB.out) (j : Int) (by omega) (by omega)
          rw [rd31_nat] at e0 e1
          obtain ⟨x, hx⟩ : ∃ x, l2.getD j z31 = x := ⟨_, rfl⟩
          have HD := hd ((getD_drop l2 z31 j hlt).trans (by rw [hx]))
          rw [hx, Int.toNat_natCast] at e0 e1
          clear hx
          by_cases hs1 : x.f1 < 1
          · have hs1b : decide (x.f1 < 1) = true := decide_eq_true hs1
            go_wp2_with ((with_reducible refine gate_callee (f := 9) rfl ?_); refine goesL_ (some 43) rfl rfl Tryd.func9 (by kernel_rfl) rfl #[] rfl (by (try simp only [List.map_toArray, List.map_cons, List.map_nil]); first | done | rfl) ?_; (with_reducible refine (HAW.out _ (Tabs.below TAB_.out HB.out)).mono ?_); rintro e wz ⟨rfl, hb⟩; refine ⟨_, rfl, ?_⟩; have HBz := hd (below_step HB.out hb); clear hb)
            go_ret
            exact ⟨rfl, HBz.out⟩
          · have hs1b : decide (x.f1 < 1) = false := decide_eq_false hs1
            by_cases hs8 : 8 < x.f1
            · have hs8b : decide (8 < x.f1) = true := decide_eq_true hs8
              go_wp2_with ((with_reducible refine gate_callee (f := 9) rfl ?_); refine goesL_ (some 43) rfl rfl Tryd.func9 (by kernel_rfl) rfl #[] rfl (by (try simp only [List.map_toArray, List.map_cons, List.map_nil]); first | done | rfl) ?_; (with_reducible refine (HAW.out _ (Tabs.below TAB_.out HB.out)).mono ?_); rintro e wz ⟨rfl, hb⟩; refine ⟨_, rfl, ?_⟩; have HBz := hd (below_step HB.out hb); clear hb)
              go_ret
              exact ⟨rfl, HBz.out⟩
            · have hs8b : decide (8 < x.f1) = false := decide_eq_false hs8
              go_wp2_with fail
              go_roundw
              case rel => exact ⟨j + 1, by omega, by go_num, hd (take_ok HF.out (by omega) HD.out ⟨by omega, by omega⟩), BA, BB, BS, HX, HB⟩
              case measure => simp [intOf]; omega
        · have hj1 : ¬ (j : Int) < (l2.length : Int) := by omega
          have HF2 : Hd (∀ o ∈ l2, okSt o) := hd (by have h := HF.out; rw [List.take_of_length_le (by omega)] at h; exact h)
          go_wp2_with fail
          go_roundw
          case rel => exact ⟨1, by omega, rfl, hd (fun _ => HF2.out), hd (fun h => by omega), BA, BB, BS, HB⟩
          case measure => simp [intOf]
    · clear HF2
      have q0 := (blk_cell BS.out 4).trans rfl
      have q1 := (blk_cell BS.out 5).trans rfl
      have q2 := (blk_cell BS.out 6).trans rfl
      have q3 := (blk_cell BS.out 7).trans rfl
      go_wp2
      have HX : Hd ((wr.alloc (.cells #[.int .i64 b0, .slice B1 m1.length d1, .slice B2 m2.length d2, .slice B3 m3.length d3] 27)).heap[wr.heap.size]? = some (.cells #[.int .i64 b0, .slice B1 m1.length d1, .slice B2 m2.length d2, .slice B3 m3.length d3] 27 (0, 0))) := hd (blk_new wr _)
      have BA2 := hd (blk_alloc BA.out (.cells #[.int .i64 b0, .slice B1 m1.length d1, .slice B2 m2.length d2, .slice B3 m3.length d3] 27))
      have BB2 := hd (blk_alloc BB.out (.cells #[.int .i64 b0, .slice B1 m1.length d1, .slice B2 m2.length d2, .slice B3 m3.length d3] 27))
      have BS2 := hd (blk_alloc BS.out (.cells #[.int .i64 b0, .slice B1 m1.length d1, .slice B2 m2.length d2, .slice B3 m3.length d3] 27))
      have HB2 := hd (below_alloc HB.out (.cells #[.int .i64 b0, .slice B1 m1.length d1, .slice B2 m2.length d2, .slice B3 m3.length d3] 27))
      clear BA BB BS HB q0 q1 q2 q3
      generalize wr.alloc _ = w1 at HX BA2 BB2 BS2 HB2 ⊢
      obtain ⟨gx, hgx⟩ : ∃ g, wr.heap.size = g := ⟨_, rfl⟩
      rw [hgx] at HX ⊢
      clear hgx
      go_loopw [7] (fun jv w2 => ∃ j : Nat, j ≤ m2.length ∧ jv = .int .i64 (j : Int) ∧ Hd (∀ o ∈ m2.take j, okSt o) ∧ Hd (w2.heap[w.heap.size]? = some (.cells #[.int .i64 a0, .slice A1 l1.length c1, .slice A2 l2.length c2, .slice A3 l3.length c3] 27 (0, 0))) ∧ Hd (w2.heap[w.heap.size + 1]? = some (.cells #[.int .i64 b0, .slice B1 m1.length d1, .slice B2 m2.length d2, .slice B3 m3.length d3] 27 (0, 0))) ∧ Hd (w2.heap[w.heap.size + 1 + 1]? = some (.cells #[.int .i64 a0, .slice A1 l1.length c1, .slice A2 l2.length c2, .slice A3 l3.length c3, .int .i64 b0, .slice B1 m1.length d1, .slice B2 m2.length d2, .slice B3 m3.length d3] 27 (0, 0))) ∧ Hd (w2.heap[gx]? = some (.cells #[.int .i64 b0, .slice B1 m1.length d1, .slice B2 m2.length d2, .slice B3 m3.length d3] 27 (0, 0))) ∧ Hd (Below w.heap.size w w2)) (fun jv _ => m2.length - (intOf jv).toNat)
      case atStart => exact ⟨0, by omega, rfl, hd (fun o ho => by simp at ho), BA2, BB2, BS2, HX, HB2⟩
      case round =>
        obtain ⟨j, hj, rfl, HF, BA, BB, BS, HX, HB⟩ := hrel
        have hlen : m2.length ≤ 9223372036854775807 := by have := HL.out; omega
        have x2 := (blk_cell HX.out 2).trans rfl
        by_cases hlt : j < m2.length
        · have hj1 : (j : Int) < (m2.length : Int) := by omega
          obtain ⟨ad, rfl, e0, e1⟩ := at_T31 (Kd.C_below GR2.out HB.out) (j : Int) (by omega) (by omega)
          rw [rd31_nat] at e0 e1
          obtain ⟨x, hx⟩ : ∃ x, m2.getD j z31 = x := ⟨_, rfl⟩
          have HD := hd ((getD_drop m2 z31 j hlt).trans (by rw [hx]))
          rw [hx, Int.toNat_natCast] at e0 e1
          clear hx
          by_cases hs1 : x.f1 < 1
          · have hs1b : decide (x.f1 < 1) = true := decide_eq_true hs1
            go_wp2_with ((with_reducible refine gate_callee (f := 9) rfl ?_); refine goesL_ (some 43) rfl rfl Tryd.func9 (by kernel_rfl) rfl #[] rfl (by (try simp only [List.map_toArray, List.map_cons, List.map_nil]); first | done | rfl) ?_; (with_reducible refine (HAW.out _ (Tabs.below TAB_.out HB.out)).mono ?_); rintro e wz ⟨rfl, hb⟩; refine ⟨_, rfl, ?_⟩; have HBz := hd (below_step HB.out hb); clear hb)
            go_ret
            exact ⟨rfl, HBz.out⟩
          · have hs1b : decide (x.f1 < 1) = false := decide_eq_false hs1
            by_cases hs8 : 8 < x.f1
            · have hs8b : decide (8 < x.f1) = true := decide_eq_true hs8
              go_wp2_with ((with_reducible refine gate_callee (f := 9) rfl ?_); refine goesL_ (some 43) rfl rfl Tryd.func9 (by kernel_rfl) rfl #[] rfl (by (try simp only [List.map_toArray, List.map_cons, List.map_nil]); first | done | rfl) ?_; (with_reducible refine (HAW.out _ (Tabs.below TAB_.out HB.out)).mono ?_); rintro e wz ⟨rfl, hb⟩; refine ⟨_, rfl, ?_⟩; have HBz := hd (below_step HB.out hb); clear hb)
              go_ret
              exact ⟨rfl, HBz.out⟩
            · have hs8b : decide (8 < x.f1) = false := decide_eq_false hs8
              go_wp2_with fail
              go_roundw
              case rel => exact ⟨j + 1, by omega, by go_num, hd (take_ok HF.out (by omega) HD.out ⟨by omega, by omega⟩), BA, BB, BS, HX, HB⟩
              case measure => simp [intOf]; omega
        · have hj1 : ¬ (j : Int) < (m2.length : Int) := by omega
          have HF2 : Hd (∀ o ∈ m2, okSt o) := hd (by have h := HF.out; rw [List.take_of_length_le (by omega)] at h; exact h)
          go_wp2_with fail
          go_roundw
          case rel => exact ⟨2, by omega, rfl, hd (fun _ => HF1.out (by omega)), hd (fun _ => HF2.out), BA, BB, BS, HB⟩
          case measure => simp [intOf]
    · have F1 := HF1.out (by omega)
      have F2 := HF2.out (by omega)
      have HE := hd (HS.out F1 F2)
      clear BS HF1 HF2 HS F1 F2
      have y1 := (blk_cell BA.out 1).trans rfl
      have y2 := (blk_cell BA.out 2).trans rfl
      have y3 := (blk_cell BA.out 3).trans rfl
      have z1 := (blk_cell BB.out 1).trans rfl
      have z2 := (blk_cell BB.out 2).trans rfl
      have z3 := (blk_cell BB.out 3).trans rfl
      go_upto_region 10 with fail
      go_cut [8] from 45 to 69 (fun v wc => ∃ s : Bool, v = .bool s ∧ Hd (s = true → l1.length = m1.length ∧ l2.length = m2.length ∧ l3.length = m3.length) ∧ Hd (s = false → ¬ (l1 = m1 ∧ l2 = m2 ∧ l3 = m3)) ∧ Hd (wc.heap[w.heap.size]? = some (.cells #[.int .i64 a0, .slice A1 l1.length c1, .slice A2 l2.length c2, .slice A3 l3.length c3] 27 (0, 0))) ∧ Hd (wc.heap[w.heap.size + 1]? = some (.cells #[.int .i64 b0, .slice B1 m1.length d1, .slice B2 m2.length d2, .slice B3 m3.length d3] 27 (0, 0))) ∧ Hd (Below w.heap.size w wc))
      case first =>
        by_cases q1 : l1.length = m1.length
        · have Q1 := hd q1
          have b1 : ((l1.length : Int) == (m1.length : Int)) = true := by rw [q1]; exact beq_self_eq_true _
          clear q1
          by_cases q2 : l2.length = m2.length
          · have Q2 := hd q2
            have b2 : ((l2.length : Int) == (m2.length : Int)) = true := by rw [q2]; exact beq_self_eq_true _
            clear q2
            by_cases q3 : l3.length = m3.length
            · have Q3 := hd q3
              have b3 : ((l3.length : Int) == (m3.length : Int)) = true := by rw [q3]; exact beq_self_eq_true _
              clear q3
              go_wp2_with fail
              go_meet
              case rel => exact ⟨true, rfl, hd (fun _ => ⟨Q1.out, Q2.out, Q3.out⟩), hd (fun h => by cases h), BA, BB, HB⟩
            · have Q3 : Hd (¬ (l1 = m1 ∧ l2 = m2 ∧ l3 = m3)) := hd (fun h => q3 (by rw [h.2.2]))
              have b3 : ((l3.length : Int) == (m3.length : Int)) = false := beq_eq_false_iff_ne.mpr (by omega)
              clear q3
              go_wp2_with fail
              go_meet
              case rel => exact ⟨false, rfl, hd (fun h => by cases h), hd (fun _ => Q3.out), BA, BB, HB⟩
          · have Q2 : Hd (¬ (l1 = m1 ∧ l2 = m2 ∧ l3 = m3)) := hd (fun h => q2 (by rw [h.2.1]))
            have b2 : ((l2.length : Int) == (m2.length : Int)) = false := beq_eq_false_iff_ne.mpr (by omega)
            clear q2
            go_wp2_with fail
            go_meet
            case rel => exact ⟨false, rfl, hd (fun h => by cases h), hd (fun _ => Q2.out), BA, BB, HB⟩
        · have Q1 : Hd (¬ (l1 = m1 ∧ l2 = m2 ∧ l3 = m3)) := hd (fun h => q1 (by rw [h.1]))
          have b1 : ((l1.length : Int) == (m1.length : Int)) = false := beq_eq_false_iff_ne.mpr (by omega)
          clear q1
          go_wp2_with fail
          go_meet
          case rel => exact ⟨false, rfl, hd (fun h => by cases h), hd (fun _ => Q1.out), BA, BB, HB⟩
      case rest =>
        clear y1 y2 y3 z1 z2 z3 BA BB HB
        obtain ⟨s, rfl, HT, HF, BA, BB, HB⟩ := hcut
        go_upto_block 4 with fail
        go_cut [8, 9] from 70 to 90 (fun v v9 wc => ∃ (s : Bool) (x9 : Int), v = .bool s ∧ v9 = .int .i64 x9 ∧ Hd (s = true → l1 = m1 ∧ l2.length = m2.length ∧ l3.length = m3.length) ∧ Hd (s = false → ¬ (l1 = m1 ∧ l2 = m2 ∧ l3 = m3)) ∧ Hd (wc.heap[w.heap.size]? = some (.cells #[.int .i64 a0, .slice A1 l1.length c1, .slice A2 l2.length c2, .slice A3 l3.length c3] 27 (0, 0))) ∧ Hd (wc.heap[w.heap.size + 1]? = some (.cells #[.int .i64 b0, .slice B1 m1.length d1, .slice B2 m2.length d2, .slice B3 m3.length d3] 27 (0, 0))) ∧ Hd (Below w.heap.size w wc))
        case first =>
          go_wp2_with fail
          go_loopw [8, 9] (fun v iv wr => ∃ (s : Bool) (i : Nat), i ≤ l1.length ∧ v = .bool s ∧ iv = .int .i64 (i : Int) ∧ Hd (s = true → l1.take i = m1.take i ∧ l1.length = m1.length ∧ l2.length = m2.length ∧ l3.length = m3.length) ∧ Hd (s = false → ¬ (l1 = m1 ∧ l2 = m2 ∧ l3 = m3)) ∧ Hd (wr.heap[w.heap.size]? = some (.cells #[.int .i64 a0, .slice A1 l1.length c1, .slice A2 l2.length c2, .slice A3 l3.length c3] 27 (0, 0))) ∧ Hd (wr.heap[w.heap.size + 1]? = some (.cells #[.int .i64 b0, .slice B1 m1.length d1, .slice B2 m2.length d2, .slice B3 m3.length d3] 27 (0, 0))) ∧ Hd (Below w.heap.size w wr)) (fun _ iv => fun _ => l1.length - (intOf iv).toNat)
          case atStart => exact ⟨s, 0, by omega, rfl, rfl, hd (fun h => ⟨rfl, HT.out h⟩), HF, BA, BB, HB⟩
          case round =>
            clear HT HF BA BB HB
            obtain ⟨s, i, hi, rfl, rfl, HT, HF, BA, BB, HB⟩ := hrel
            have hlen : l1.length ≤ 9223372036854775807 := by have := HL.out; omega
            cases s
            · have HF2 := hd (HF.out rfl)
              clear HT HF
              go_wp2_with fail
              go_meet
              case rel => exact ⟨false, _, rfl, rfl, hd (fun h => by cases h), hd (fun _ => HF2.out), BA, BB, HB⟩
            · have HT2 := hd (HT.out rfl)
              clear HT HF
              have y1 := (blk_cell BA.out 1).trans rfl
              by_cases hlt : i < l1.length
              · have hi1 : (i : Int) < (l1.length : Int) := by omega
                have hi2 : (i : Int) < (m1.length : Int) := by have h := HT2.out.2; omega
                go_wp2_with fail
                have BA2 := hd (blk_drew BA.out)
                have BB2 := hd (blk_drew BB.out)
                have HB2 := hd (below_drew1 HB.out)
                clear BA BB HB y1
                obtain ⟨ad, rfl, e0⟩ := Kd.at_int (Kd.C_below HR1.out HB2.out) (i : Int) (by omega) hi1
                obtain ⟨bd, rfl, f0⟩ := Kd.at_int (Kd.C_below GR1.out HB2.out) (i : Int) (by omega) hi2
                rw [rdI_nat, Int.toNat_natCast] at e0 f0
                obtain ⟨x, hx⟩ : ∃ x, l1.getD i 0 = x := ⟨_, rfl⟩
                obtain ⟨y, hy⟩ : ∃ y, m1.getD i 0 = y := ⟨_, rfl⟩
                rw [hx] at e0
                rw [hy] at f0
                have HTK := hd (take_next (z := (0 : Int)) (t := x == y) beq_iff_eq HT2.out.1 hlt (by have h := HT2.out.2; omega) hx hy)
                clear hx hy
                refine start_ (n := 12) (S := fun w' => w'.cell? ⟨w.heap.size, 1, none⟩ = some (.slice (some ad) l1.length c1) ∧ w'.cell? ⟨w.heap.size + 1, 1, none⟩ = some (.slice (some bd) m1.length d1) ∧ w'.cell? (ad.add i) = some (.int .i64 x) ∧ w'.cell? (bd.add i) = some (.int .i64 y)) (ds := []) #[false, false, false, false, false, false, false, false, false, false, false, false] (by kernel_rfl) rfl rfl ⟨(blk_cell BA2.out 1).trans rfl, (blk_cell BB2.out 1).trans rfl, e0, f0⟩ (fun hHeld => ?_)
                refine with_tabW apartR.tab14 apartR.bits14 (fun HT_ HW_ => ?_)
                generalize World.drew _ = w25 at BA2 BB2 HB2 hHeld ⊢
                refine pure_ (i := 0) (N := (some 80)) (v := ?_) (a' := ?_) #[true, false, false, false, false, false, false, false, false, false, false, false] rfl rfl (any_of HT_.out (by kernel_rfl)) (fun _ _ _ h => h) (Or.inl ⟨by rfl, ?_⟩) ?_ ?_
                rotate_left
                · intro w'
                  go_simp
                  with_reducible rfl
                rotate_left
                · simp only [Act.put, List.setIfInBounds_toArray, List.set_cons_zero, List.set_cons_succ, i64_w, i32_w]
                  rfl
                refine take_ (i := 1) (N := (some 81)) (v := ?_) (a' := ?_) #[true, true, false, false, false, false, false, false, false, false, false, false] rfl rfl (take_ofW HT_.out HW_.out (by kernel_rfl)) (fun _ _ _ h => h) (Or.inl ⟨by rfl, ?_⟩) hHeld ?_ ?_
                rotate_left
                · rintro w' ⟨s0, s1, s2, s3⟩
                  go_simp
                  with_reducible rfl
                rotate_left
                · simp only [Act.put, List.setIfInBounds_toArray, List.set_cons_zero, List.set_cons_succ, i64_w, i32_w]
                  rfl
                refine pure_ (i := 2) (N := (some 82)) (v := ?_) (a' := ?_) #[true, true, true, false, false, false, false, false, false, false, false, false] rfl rfl (any_of HT_.out (by kernel_rfl)) (fun _ _ _ h => h) (Or.inl ⟨by rfl, ?_⟩) ?_ ?_
                rotate_left
                · intro w'
                  go_simp
                  with_reducible rfl
                rotate_left
                · simp only [Act.put, List.setIfInBounds_toArray, List.set_cons_zero, List.set_cons_succ, i64_w, i32_w]
                  rfl
                refine pure_ (i := 3) (N := (some 83)) (v := ?_) (a' := ?_) #[true, true, true, true, false, false, false, false, false, false, false, false] rfl rfl (any_of HT_.out (by kernel_rfl)) (fun _ _ _ h => h) (Or.inl ⟨by rfl, ?_⟩) ?_ ?_
                rotate_left
                · intro w'
                  go_simp
                  with_reducible rfl
                rotate_left
                · simp only [Act.put, List.setIfInBounds_toArray, List.set_cons_zero, List.set_cons_succ, i64_w, i32_w]
                  rfl
                refine take_ (i := 4) (N := (some 84)) (v := ?_) (a' := ?_) #[true, true, true, true, true, false, false, false, false, false, false, false] rfl rfl (take_ofW HT_.out HW_.out (by kernel_rfl)) (fun _ _ _ h => h) (Or.inl ⟨by rfl, ?_⟩) hHeld ?_ ?_
                rotate_left
                · rintro w' ⟨s0, s1, s2, s3⟩
                  go_simp
                  with_reducible rfl
                rotate_left
                · simp only [Act.put, List.setIfInBounds_toArray, List.set_cons_zero, List.set_cons_succ, i64_w, i32_w]
                  rfl
                refine pure_ (i := 5) (N := (some 85)) (v := ?_) (a' := ?_) #[true, true, true, true, true, true, false, false, false, false, false, false] rfl rfl (any_of HT_.out (by kernel_rfl)) (fun _ _ _ h => h) (Or.inl ⟨by rfl, ?_⟩) ?_ ?_
                rotate_left
                · intro w'
                  go_simp
                  with_reducible rfl
                rotate_left
                · simp only [Act.put, List.setIfInBounds_toArray, List.set_cons_zero, List.set_cons_succ, i64_w, i32_w]
                  rfl
                refine take_ (i := 6) (N := (some 86)) (v := ?_) (a' := ?_) #[true, true, true, true, true, true, true, false, false, false, false, false] rfl rfl (take_ofW HT_.out HW_.out (by kernel_rfl)) (fun _ _ _ h => h) (Or.inl ⟨by rfl, ?_⟩) hHeld ?_ ?_
                rotate_left
                · rintro w' ⟨s0, s1, s2, s3⟩
                  go_simp
                  with_reducible rfl
                rotate_left
                · simp only [Act.put, List.setIfInBounds_toArray, List.set_cons_zero, List.set_cons_succ, i64_w, i32_w]
                  rfl
                refine pure_ (i := 7) (N := (some 87)) (v := ?_) (a' := ?_) #[true, true, true, true, true, true, true, true, false, false, false, false] rfl rfl (any_of HT_.out (by kernel_rfl)) (fun _ _ _ h => h) (Or.inl ⟨by rfl, ?_⟩) ?_ ?_
                rotate_left
                · intro w'
                  go_simp
                  with_reducible rfl
                rotate_left
                · simp only [Act.put, List.setIfInBounds_toArray, List.set_cons_zero, List.set_cons_succ, i64_w, i32_w]
                  rfl
                refine pure_ (i := 8) (N := (some 88)) (v := ?_) (a' := ?_) #[true, true, true, true, true, true, true, true, true, false, false, false] rfl rfl (any_of HT_.out (by kernel_rfl)) (fun _ _ _ h => h) (Or.inl ⟨by rfl, ?_⟩) ?_ ?_
                rotate_left
                · intro w'
                  go_simp
                  with_reducible rfl
                rotate_left
                · simp only [Act.put, List.setIfInBounds_toArray, List.set_cons_zero, List.set_cons_succ, i64_w, i32_w]
                  rfl
                refine take_ (i := 9) (N := (some 89)) (v := ?_) (a' := ?_) #[true, true, true, true, true, true, true, true, true, true, false, false] rfl rfl (take_ofW HT_.out HW_.out (by kernel_rfl)) (fun _ _ _ h => h) (Or.inl ⟨by rfl, ?_⟩) hHeld ?_ ?_
                rotate_left
                · rintro w' ⟨s0, s1, s2, s3⟩
                  go_simp
                  with_reducible rfl
                rotate_left
                · simp only [Act.put, List.setIfInBounds_toArray, List.set_cons_zero, List.set_cons_succ, i64_w, i32_w]
                  rfl
                refine pure_ (i := 10) (N := (some 90)) (v := ?_) (a' := ?_) #[true, true, true, true, true, true, true, true, true, true, true, false] rfl rfl (any_of HT_.out (by kernel_rfl)) (fun _ _ _ h => h) (Or.inl ⟨by rfl, ?_⟩) ?_ ?_
                rotate_left
                · intro w'
                  go_simp
                  with_reducible rfl
                rotate_left
                · simp only [Act.put, List.setIfInBounds_toArray, List.set_cons_zero, List.set_cons_succ, i64_w, i32_w]
                  rfl
                refine pure_ (i := 11) (N := (some 8)) (v := ?_) (a' := ?_) #[true, true, true, true, true, true, true, true, true, true, true, true] rfl rfl (any_of HT_.out (by kernel_rfl)) (fun _ _ _ h => h) (Or.inl ⟨by rfl, ?_⟩) ?_ ?_
                rotate_left
                · intro w'
                  go_simp
                  with_reducible rfl
                rotate_left
                · simp only [Act.put, List.setIfInBounds_toArray, List.set_cons_zero, List.set_cons_succ, i64_w, i32_w]
                  rfl
                refine done_ (done_of HT_.out (by kernel_rfl)) ?_
                clear HT_ HW_
                go_wp2_with fail
                go_roundw
                case rel => exact ⟨_, i + 1, by omega, rfl, by go_num, hd (fun h => ⟨HTK.out.1 h, HT2.out.2⟩), hd (fun h h2 => HTK.out.2 h h2.1), BA2, BB2, HB2⟩
                case measure => simp [intOf]; omega
              · have hi1 : ¬ (i : Int) < (l1.length : Int) := by omega
                go_wp2_with fail
                go_meet
                case rel => exact ⟨true, _, rfl, rfl, hd (fun _ => by have h := HT2.out; have e : l1 = m1 := take_whole h.1 (by omega) (by omega); exact ⟨e, h.2.2.1, h.2.2.2⟩), hd (fun h => by cases h), BA, BB, HB⟩
        case rest =>
        clear HT HF BA BB HB
        obtain ⟨s, x9, rfl, rfl, HT, HF, BA, BB, HB⟩ := hcut
        go_upto_block 6 with fail
        go_cut [8, 10] from 91 to 111 (fun v v9 wc => ∃ (s : Bool) (x9 : Int), v = .bool s ∧ v9 = .int .i64 x9 ∧ Hd (s = true → l1 = m1 ∧ l2 = m2 ∧ l3.length = m3.length) ∧ Hd (s = false → ¬ (l1 = m1 ∧ l2 = m2 ∧ l3 = m3)) ∧ Hd (wc.heap[w.heap.size]? = some (.cells #[.int .i64 a0, .slice A1 l1.length c1, .slice A2 l2.length c2, .slice A3 l3.length c3] 27 (0, 0))) ∧ Hd (wc.heap[w.heap.size + 1]? = some (.cells #[.int .i64 b0, .slice B1 m1.length d1, .slice B2 m2.length d2, .slice B3 m3.length d3] 27 (0, 0))) ∧ Hd (Below w.heap.size w wc))
        case first =>
          go_wp2_with fail
          go_loopw [8, 10] (fun v iv wr => ∃ (s : Bool) (i : Nat), i ≤ l2.length ∧ v = .bool s ∧ iv = .int .i64 (i : Int) ∧ Hd (s = true → l2.take i = m2.take i ∧ l1 = m1 ∧ l2.length = m2.length ∧ l3.length = m3.length) ∧ Hd (s = false → ¬ (l1 = m1 ∧ l2 = m2 ∧ l3 = m3)) ∧ Hd (wr.heap[w.heap.size]? = some (.cells #[.int .i64 a0, .slice A1 l1.length c1, .slice A2 l2.length c2, .slice A3 l3.length c3] 27 (0, 0))) ∧ Hd (wr.heap[w.heap.size + 1]? = some (.cells #[.int .i64 b0, .slice B1 m1.length d1, .slice B2 m2.length d2, .slice B3 m3.length d3] 27 (0, 0))) ∧ Hd (Below w.heap.size w wr)) (fun _ iv => fun _ => l2.length - (intOf iv).toNat)
          case atStart => exact ⟨s, 0, by omega, rfl, rfl, hd (fun h => ⟨rfl, HT.out h⟩), HF, BA, BB, HB⟩
          case round =>
            clear HT HF BA BB HB
            obtain ⟨s, i, hi, rfl, rfl, HT, HF, BA, BB, HB⟩ := hrel
            have hlen : l2.length ≤ 9223372036854775807 := by have := HL.out; omega
            cases s
            · have HF2 := hd (HF.out rfl)
              clear HT HF
              go_wp2_with fail
              go_meet
              case rel => exact ⟨false, _, rfl, rfl, hd (fun h => by cases h), hd (fun _ => HF2.out), BA, BB, HB⟩
            · have HT2 := hd (HT.out rfl)
              clear HT HF
              have y1 := (blk_cell BA.out 2).trans rfl
              by_cases hlt : i < l2.length
              · have hi1 : (i : Int) < (l2.length : Int) := by omega
                have hi2 : (i : Int) < (m2.length : Int) := by have h := HT2.out.2; omega
                go_wp2_with fail
                have BA2 := hd (blk_drew BA.out)
                have BB2 := hd (blk_drew BB.out)
                have HB2 := hd (below_drew1 HB.out)
                clear BA BB HB y1
                obtain ⟨ad, rfl, e0, e1⟩ := at_T31 (Kd.C_below HR2.out HB2.out) (i : Int) (by omega) hi1
                obtain ⟨bd, rfl, f0, f1⟩ := at_T31 (Kd.C_below GR2.out HB2.out) (i : Int) (by omega) hi2
                rw [rd31_nat, Int.toNat_natCast] at e0 e1 f0 f1
                obtain ⟨x, hx⟩ : ∃ x, l2.getD i z31 = x := ⟨_, rfl⟩
                obtain ⟨y, hy⟩ : ∃ y, m2.getD i z31 = y := ⟨_, rfl⟩
                rw [hx] at e0 e1
                rw [hy] at f0 f1
                have HTK := hd (take_next (z := z31) (t := x.f0 == y.f0 && x.f1 == y.f1) eq31 HT2.out.1 hlt (by have h := HT2.out.2; omega) hx hy)
                clear hx hy
                refine start_ (n := 12) (S := fun w' => w'.cell? ⟨w.heap.size, 2, none⟩ = some (.slice (some ad) l2.length c2) ∧ w'.cell? ⟨w.heap.size + 1, 2, none⟩ = some (.slice (some bd) m2.length d2) ∧ w'.cell? (ad.add (i * 2)) = some (.int .i64 x.f0) ∧ w'.cell? ⟨(ad.add (i * 2)).block, (ad.add (i * 2)).off + 1, none⟩ = some (.int .u8 x.f1) ∧ w'.cell? (bd.add (i * 2)) = some (.int .i64 y.f0) ∧ w'.cell? ⟨(bd.add (i * 2)).block, (bd.add (i * 2)).off + 1, none⟩ = some (.int .u8 y.f1)) (ds := []) #[false, false, false, false, false, false, false, false, false, false, false, false] (by kernel_rfl) rfl rfl ⟨(blk_cell BA2.out 2).trans rfl, (blk_cell BB2.out 2).trans rfl, e0, e1, f0, f1⟩ (fun hHeld => ?_)
                refine with_tabW apartR.tab18 apartR.bits18 (fun HT_ HW_ => ?_)
                generalize World.drew _ = w25 at BA2 BB2 HB2 hHeld ⊢
                refine pure_ (i := 0) (N := (some 101)) (v := ?_) (a' := ?_) #[true, false, false, false, false, false, false, false, false, false, false, false] rfl rfl (any_of HT_.out (by kernel_rfl)) (fun _ _ _ h => h) (Or.inl ⟨by rfl, ?_⟩) ?_ ?_
                rotate_left
                · intro w'
                  go_simp
                  with_reducible rfl
                rotate_left
                · simp only [Act.put, List.setIfInBounds_toArray, List.set_cons_zero, List.set_cons_succ, i64_w, i32_w]
                  rfl
                refine take_ (i := 1) (N := (some 102)) (v := ?_) (a' := ?_) #[true, true, false, false, false, false, false, false, false, false, false, false] rfl rfl (take_ofW HT_.out HW_.out (by kernel_rfl)) (fun _ _ _ h => h) (Or.inl ⟨by rfl, ?_⟩) hHeld ?_ ?_
                rotate_left
                · rintro w' ⟨s0, s1, s2, s3, s4, s5⟩
                  go_simp
                  with_reducible rfl
                rotate_left
                · simp only [Act.put, List.setIfInBounds_toArray, List.set_cons_zero, List.set_cons_succ, i64_w, i32_w]
                  rfl
                refine pure_ (i := 2) (N := (some 103)) (v := ?_) (a' := ?_) #[true, true, true, false, false, false, false, false, false, false, false, false] rfl rfl (any_of HT_.out (by kernel_rfl)) (fun _ _ _ h => h) (Or.inl ⟨by rfl, ?_⟩) ?_ ?_
                rotate_left
                · intro w'
                  go_simp
                  with_reducible rfl
                rotate_left
                · simp only [Act.put, List.setIfInBounds_toArray, List.set_cons_zero, List.set_cons_succ, i64_w, i32_w]
                  rfl
                refine pure_ (i := 3) (N := (some 104)) (v := ?_) (a' := ?_) #[true, true, true, true, false, false, false, false, false, false, false, false] rfl rfl (any_of HT_.out (by kernel_rfl)) (fun _ _ _ h => h) (Or.inl ⟨by rfl, ?_⟩) ?_ ?_
                rotate_left
                · intro w'
                  go_simp
                  with_reducible rfl
                rotate_left
                · simp only [Act.put, List.setIfInBounds_toArray, List.set_cons_zero, List.set_cons_succ, i64_w, i32_w]
                  rfl
                refine take_ (i := 4) (N := (some 105)) (v := ?_) (a' := ?_) #[true, true, true, true, true, false, false, false, false, false, false, false] rfl rfl (take_ofW HT_.out HW_.out (by kernel_rfl)) (fun _ _ _ h => h) (Or.inl ⟨by rfl, ?_⟩) hHeld ?_ ?_
                rotate_left
                · rintro w' ⟨s0, s1, s2, s3, s4, s5⟩
                  go_simp
                  with_reducible rfl
                rotate_left
                · simp only [Act.put, List.setIfInBounds_toArray, List.set_cons_zero, List.set_cons_succ, i64_w, i32_w]
                  rfl
                refine pure_ (i := 5) (N := (some 106)) (v := ?_) (a' := ?_) #[true, true, true, true, true, true, false, false, false, false, false, false] rfl rfl (any_of HT_.out (by kernel_rfl)) (fun _ _ _ h => h) (Or.inl ⟨by rfl, ?_⟩) ?_ ?_
                rotate_left
                · intro w'
                  go_simp
                  with_reducible rfl
                rotate_left
                · simp only [Act.put, List.setIfInBounds_toArray, List.set_cons_zero, List.set_cons_succ, i64_w, i32_w]
                  rfl
                refine take_ (i := 6) (N := (some 107)) (v := ?_) (a' := ?_) #[true, true, true, true, true, true, true, false, false, false, false, false] rfl rfl (take_ofW HT_.out HW_.out (by kernel_rfl)) (fun _ _ _ h => h) (Or.inl ⟨by rfl, ?_⟩) hHeld ?_ ?_
                rotate_left
                · rintro w' ⟨s0, s1, s2, s3, s4, s5⟩
                  go_simp
                  with_reducible rfl
                rotate_left
                · simp only [Act.put, List.setIfInBounds_toArray, List.set_cons_zero, List.set_cons_succ, i64_w, i32_w]
                  rfl
                refine pure_ (i := 7) (N := (some 108)) (v := ?_) (a' := ?_) #[true, true, true, true, true, true, true, true, false, false, false, false] rfl rfl (any_of HT_.out (by kernel_rfl)) (fun _ _ _ h => h) (Or.inl ⟨by rfl, ?_⟩) ?_ ?_
                rotate_left
                · intro w'
                  go_simp
                  with_reducible rfl
                rotate_left
                · simp only [Act.put, List.setIfInBounds_toArray, List.set_cons_zero, List.set_cons_succ, i64_w, i32_w]
                  rfl
                refine pure_ (i := 8) (N := (some 109)) (v := ?_) (a' := ?_) #[true, true, true, true, true, true, true, true, true, false, false, false] rfl rfl (any_of HT_.out (by kernel_rfl)) (fun _ _ _ h => h) (Or.inl ⟨by rfl, ?_⟩) ?_ ?_
                rotate_left
                · intro w'
                  go_simp
                  with_reducible rfl
                rotate_left
                · simp only [Act.put, List.setIfInBounds_toArray, List.set_cons_zero, List.set_cons_succ, i64_w, i32_w]
                  rfl
                refine take_ (i := 9) (N := (some 110)) (v := ?_) (a' := ?_) #[true, true, true, true, true, true, true, true, true, true, false, false] rfl rfl (take_ofW HT_.out HW_.out (by kernel_rfl)) (fun _ _ _ h => h) (Or.inl ⟨by rfl, ?_⟩) hHeld ?_ ?_
                rotate_left
                · rintro w' ⟨s0, s1, s2, s3, s4, s5⟩
                  go_simp
                  with_reducible rfl
                rotate_left
                · simp only [Act.put, List.setIfInBounds_toArray, List.set_cons_zero, List.set_cons_succ, i64_w, i32_w]
                  rfl
                refine pure_ (i := 10) (N := (some 111)) (v := ?_) (a' := ?_) #[true, true, true, true, true, true, true, true, true, true, true, false] rfl rfl (any_of HT_.out (by kernel_rfl)) (fun _ _ _ h => h) (Or.inl ⟨by rfl, ?_⟩) ?_ ?_
                rotate_left
                · intro w'
                  go_simp
                  exact ite_two _ _ _ _ _
                  first | done | with_reducible rfl
                rotate_left
                · simp only [Act.put, List.setIfInBounds_toArray, List.set_cons_zero, List.set_cons_succ, i64_w, i32_w]
                  rfl
                refine pure_ (i := 11) (N := (some 8)) (v := ?_) (a' := ?_) #[true, true, true, true, true, true, true, true, true, true, true, true] rfl rfl (any_of HT_.out (by kernel_rfl)) (fun _ _ _ h => h) (Or.inl ⟨by rfl, ?_⟩) ?_ ?_
                rotate_left
                · intro w'
                  go_simp
                  with_reducible rfl
                rotate_left
                · simp only [Act.put, List.setIfInBounds_toArray, List.set_cons_zero, List.set_cons_succ, i64_w, i32_w]
                  rfl
                refine done_ (done_of HT_.out (by kernel_rfl)) ?_
                clear HT_ HW_
                go_wp2_with fail
                go_roundw
                case rel => exact ⟨_, i + 1, by omega, rfl, by go_num, hd (fun h => ⟨HTK.out.1 h, HT2.out.2⟩), hd (fun h h2 => HTK.out.2 h h2.2.1), BA2, BB2, HB2⟩
                case measure => simp [intOf]; omega
              · have hi1 : ¬ (i : Int) < (l2.length : Int) := by omega
                go_wp2_with fail
                go_meet
                case rel => exact ⟨true, _, rfl, rfl, hd (fun _ => by have h := HT2.out; have e : l2 = m2 := take_whole h.1 (by omega) (by omega); exact ⟨h.2.1, e, h.2.2.2⟩), hd (fun h => by cases h), BA, BB, HB⟩
        case rest =>
        clear HT HF BA BB HB
        obtain ⟨s, x9, rfl, rfl, HT, HF, BA, BB, HB⟩ := hcut
        go_upto_block 8 with fail
        go_cut [8, 11] from 112 to 132 (fun v v9 wc => ∃ (s : Bool) (x9 : Int), v = .bool s ∧ v9 = .int .i64 x9 ∧ Hd (s = true → l1 = m1 ∧ l2 = m2 ∧ l3 = m3) ∧ Hd (s = false → ¬ (l1 = m1 ∧ l2 = m2 ∧ l3 = m3)) ∧ Hd (wc.heap[w.heap.size]? = some (.cells #[.int .i64 a0, .slice A1 l1.length c1, .slice A2 l2.length c2, .slice A3 l3.length c3] 27 (0, 0))) ∧ Hd (wc.heap[w.heap.size + 1]? = some (.cells #[.int .i64 b0, .slice B1 m1.length d1, .slice B2 m2.length d2, .slice B3 m3.length d3] 27 (0, 0))) ∧ Hd (Below w.heap.size w wc))
        case first =>
          go_wp2_with fail
          go_loopw [8, 11] (fun v iv wr => ∃ (s : Bool) (i : Nat), i ≤ l3.length ∧ v = .bool s ∧ iv = .int .i64 (i : Int) ∧ Hd (s = true → l3.take i = m3.take i ∧ l1 = m1 ∧ l2 = m2 ∧ l3.length = m3.length) ∧ Hd (s = false → ¬ (l1 = m1 ∧ l2 = m2 ∧ l3 = m3)) ∧ Hd (wr.heap[w.heap.size]? = some (.cells #[.int .i64 a0, .slice A1 l1.length c1, .slice A2 l2.length c2, .slice A3 l3.length c3] 27 (0, 0))) ∧ Hd (wr.heap[w.heap.size + 1]? = some (.cells #[.int .i64 b0, .slice B1 m1.length d1, .slice B2 m2.length d2, .slice B3 m3.length d3] 27 (0, 0))) ∧ Hd (Below w.heap.size w wr)) (fun _ iv => fun _ => l3.length - (intOf iv).toNat)
          case atStart => exact ⟨s, 0, by omega, rfl, rfl, hd (fun h => ⟨rfl, HT.out h⟩), HF, BA, BB, HB⟩
          case round =>
            clear HT HF BA BB HB
            obtain ⟨s, i, hi, rfl, rfl, HT, HF, BA, BB, HB⟩ := hrel
            have hlen : l3.length ≤ 9223372036854775807 := by have := HL.out; omega
            cases s
            · have HF2 := hd (HF.out rfl)
              clear HT HF
              go_wp2_with fail
              go_meet
              case rel => exact ⟨false, _, rfl, rfl, hd (fun h => by cases h), hd (fun _ => HF2.out), BA, BB, HB⟩
            · have HT2 := hd (HT.out rfl)
              clear HT HF
              have y1 := (blk_cell BA.out 3).trans rfl
              by_cases hlt : i < l3.length
              · have hi1 : (i : Int) < (l3.length : Int) := by omega
                have hi2 : (i : Int) < (m3.length : Int) := by have h := HT2.out.2; omega
                go_wp2_with fail
                have BA2 := hd (blk_drew BA.out)
                have BB2 := hd (blk_drew BB.out)
                have HB2 := hd (below_drew1 HB.out)
                clear BA BB HB y1
                obtain ⟨ad, rfl, e0, e1⟩ := at_T36 (Kd.C_below HR3.out HB2.out) (i : Int) (by omega) hi1
                obtain ⟨bd, rfl, f0, f1⟩ := at_T36 (Kd.C_below GR3.out HB2.out) (i : Int) (by omega) hi2
                rw [rd36_nat, Int.toNat_natCast] at e0 e1 f0 f1
                obtain ⟨x, hx⟩ : ∃ x, l3.getD i z36 = x := ⟨_, rfl⟩
                obtain ⟨y, hy⟩ : ∃ y, m3.getD i z36 = y := ⟨_, rfl⟩
                rw [hx] at e0 e1
                rw [hy] at f0 f1
                have HTK := hd (take_next (z := z36) (t := x.f0 == y.f0 && x.f1 == y.f1) eq36 HT2.out.1 hlt (by have h := HT2.out.2; omega) hx hy)
                clear hx hy
                refine start_ (n := 12) (S := fun w' => w'.cell? ⟨w.heap.size, 3, none⟩ = some (.slice (some ad) l3.length c3) ∧ w'.cell? ⟨w.heap.size + 1, 3, none⟩ = some (.slice (some bd) m3.length d3) ∧ w'.cell? (ad.add (i * 2)) = some (.int .i64 x.f0) ∧ w'.cell? ⟨(ad.add (i * 2)).block, (ad.add (i * 2)).off + 1, none⟩ = some (.int .u32 x.f1) ∧ w'.cell? (bd.add (i * 2)) = some (.int .i64 y.f0) ∧ w'.cell? ⟨(bd.add (i * 2)).block, (bd.add (i * 2)).off + 1, none⟩ = some (.int .u32 y.f1)) (ds := []) #[false, false, false, false, false, false, false, false, false, false, false, false] (by kernel_rfl) rfl rfl ⟨(blk_cell BA2.out 3).trans rfl, (blk_cell BB2.out 3).trans rfl, e0, e1, f0, f1⟩ (fun hHeld => ?_)
                refine with_tabW apartR.tab22 apartR.bits22 (fun HT_ HW_ => ?_)
                generalize World.drew _ = w25 at BA2 BB2 HB2 hHeld ⊢
                refine pure_ (i := 0) (N := (some 122)) (v := ?_) (a' := ?_) #[true, false, false, false, false, false, false, false, false, false, false, false] rfl rfl (any_of HT_.out (by kernel_rfl)) (fun _ _ _ h => h) (Or.inl ⟨by rfl, ?_⟩) ?_ ?_
                rotate_left
                · intro w'
                  go_simp
                  with_reducible rfl
                rotate_left
                · simp only [Act.put, List.setIfInBounds_toArray, List.set_cons_zero, List.set_cons_succ, i64_w, i32_w]
                  rfl
                refine take_ (i := 1) (N := (some 123)) (v := ?_) (a' := ?_) #[true, true, false, false, false, false, false, false, false, false, false, false] rfl rfl (take_ofW HT_.out HW_.out (by kernel_rfl)) (fun _ _ _ h => h) (Or.inl ⟨by rfl, ?_⟩) hHeld ?_ ?_
                rotate_left
                · rintro w' ⟨s0, s1, s2, s3, s4, s5⟩
                  go_simp
                  with_reducible rfl
                rotate_left
                · simp only [Act.put, List.setIfInBounds_toArray, List.set_cons_zero, List.set_cons_succ, i64_w, i32_w]
                  rfl
                refine pure_ (i := 2) (N := (some 124)) (v := ?_) (a' := ?_) #[true, true, true, false, false, false, false, false, false, false, false, false] rfl rfl (any_of HT_.out (by kernel_rfl)) (fun _ _ _ h => h) (Or.inl ⟨by rfl, ?_⟩) ?_ ?_
                rotate_left
                · intro w'
                  go_simp
                  with_reducible rfl
                rotate_left
                · simp only [Act.put, List.setIfInBounds_toArray, List.set_cons_zero, List.set_cons_succ, i64_w, i32_w]
                  rfl
                refine pure_ (i := 3) (N := (some 125)) (v := ?_) (a' := ?_) #[true, true, true, true, false, false, false, false, false, false, false, false] rfl rfl (any_of HT_.out (by kernel_rfl)) (fun _ _ _ h => h) (Or.inl ⟨by rfl, ?_⟩) ?_ ?_
                rotate_left
                · intro w'
                  go_simp
                  with_reducible rfl
                rotate_left
                · simp only [Act.put, List.setIfInBounds_toArray, List.set_cons_zero, List.set_cons_succ, i64_w, i32_w]
                  rfl
                refine take_ (i := 4) (N := (some 126)) (v := ?_) (a' := ?_) #[true, true, true, true, true, false, false, false, false, false, false, false] rfl rfl (take_ofW HT_.out HW_.out (by kernel_rfl)) (fun _ _ _ h => h) (Or.inl ⟨by rfl, ?_⟩) hHeld ?_ ?_
                rotate_left
                · rintro w' ⟨s0, s1, s2, s3, s4, s5⟩
                  go_simp
                  with_reducible rfl
                rotate_left
                · simp only [Act.put, List.setIfInBounds_toArray, List.set_cons_zero, List.set_cons_succ, i64_w, i32_w]
                  rfl
                refine pure_ (i := 5) (N := (some 127)) (v := ?_) (a' := ?_) #[true, true, true, true, true, true, false, false, false, false, false, false] rfl rfl (any_of HT_.out (by kernel_rfl)) (fun _ _ _ h => h) (Or.inl ⟨by rfl, ?_⟩) ?_ ?_
                rotate_left
                · intro w'
                  go_simp
                  with_reducible rfl
                rotate_left
                · simp only [Act.put, List.setIfInBounds_toArray, List.set_cons_zero, List.set_cons_succ, i64_w, i32_w]
                  rfl
                refine take_ (i := 6) (N := (some 128)) (v := ?_) (a' := ?_) #[true, true, true, true, true, true, true, false, false, false, false, false] rfl rfl (take_ofW HT_.out HW_.out (by kernel_rfl)) (fun _ _ _ h => h) (Or.inl ⟨by rfl, ?_⟩) hHeld ?_ ?_
                rotate_left
                · rintro w' ⟨s0, s1, s2, s3, s4, s5⟩
                  go_simp
                  with_reducible rfl
                rotate_left
                · simp only [Act.put, List.setIfInBounds_toArray, List.set_cons_zero, List.set_cons_succ, i64_w, i32_w]
                  rfl
                refine pure_ (i := 7) (N := (some 129)) (v := ?_) (a' := ?_) #[true, true, true, true, true, true, true, true, false, false, false, false] rfl rfl (any_of HT_.out (by kernel_rfl)) (fun _ _ _ h => h) (Or.inl ⟨by rfl, ?_⟩) ?_ ?_
                rotate_left
                · intro w'
                  go_simp
                  with_reducible rfl
                rotate_left
                · simp only [Act.put, List.setIfInBounds_toArray, List.set_cons_zero, List.set_cons_succ, i64_w, i32_w]
                  rfl
                refine pure_ (i := 8) (N := (some 130)) (v := ?_) (a' := ?_) #[true, true, true, true, true, true, true, true, true, false, false, false] rfl rfl (any_of HT_.out (by kernel_rfl)) (fun _ _ _ h => h) (Or.inl ⟨by rfl, ?_⟩) ?_ ?_
                rotate_left
                · intro w'
                  go_simp
                  with_reducible rfl
                rotate_left
                · simp only [Act.put, List.setIfInBounds_toArray, List.set_cons_zero, List.set_cons_succ, i64_w, i32_w]
                  rfl
                refine take_ (i := 9) (N := (some 131)) (v := ?_) (a' := ?_) #[true, true, true, true, true, true, true, true, true, true, false, false] rfl rfl (take_ofW HT_.out HW_.out (by kernel_rfl)) (fun _ _ _ h => h) (Or.inl ⟨by rfl, ?_⟩) hHeld ?_ ?_
                rotate_left
                · rintro w' ⟨s0, s1, s2, s3, s4, s5⟩
                  go_simp
                  with_reducible rfl
                rotate_left
                · simp only [Act.put, List.setIfInBounds_toArray, List.set_cons_zero, List.set_cons_succ, i64_w, i32_w]
                  rfl
                refine pure_ (i := 10) (N := (some 132)) (v := ?_) (a' := ?_) #[true, true, true, true, true, true, true, true, true, true, true, false] rfl rfl (any_of HT_.out (by kernel_rfl)) (fun _ _ _ h => h) (Or.inl ⟨by rfl, ?_⟩) ?_ ?_
                rotate_left
                · intro w'
                  go_simp
                  exact ite_two _ _ _ _ _
                  first | done | with_reducible rfl
                rotate_left
                · simp only [Act.put, List.setIfInBounds_toArray, List.set_cons_zero, List.set_cons_succ, i64_w, i32_w]
                  rfl
                refine pure_ (i := 11) (N := (some 8)) (v := ?_) (a' := ?_) #[true, true, true, true, true, true, true, true, true, true, true, true] rfl rfl (any_of HT_.out (by kernel_rfl)) (fun _ _ _ h => h) (Or.inl ⟨by rfl, ?_⟩) ?_ ?_
                rotate_left
                · intro w'
                  go_simp
                  with_reducible rfl
                rotate_left
                · simp only [Act.put, List.setIfInBounds_toArray, List.set_cons_zero, List.set_cons_succ, i64_w, i32_w]
                  rfl
                refine done_ (done_of HT_.out (by kernel_rfl)) ?_
                clear HT_ HW_
                go_wp2_with fail
                go_roundw
                case rel => exact ⟨_, i + 1, by omega, rfl, by go_num, hd (fun h => ⟨HTK.out.1 h, HT2.out.2⟩), hd (fun h h2 => HTK.out.2 h h2.2.2), BA2, BB2, HB2⟩
                case measure => simp [intOf]; omega
              · have hi1 : ¬ (i : Int) < (l3.length : Int) := by omega
                go_wp2_with fail
                go_meet
                case rel => exact ⟨true, _, rfl, rfl, hd (fun _ => by have h := HT2.out; have e : l3 = m3 := take_whole h.1 (by omega) (by omega); exact ⟨h.2.1, h.2.2.1, e⟩), hd (fun h => by cases h), BA, BB, HB⟩
        case rest =>
        clear HT HF BA BB HB
        obtain ⟨s, x9, rfl, rfl, HT, HF, BA, BB, HB⟩ := hcut
        by_cases h0 : a0 = 0
        · subst h0
          have y0 := (blk_cell BA.out 0).trans rfl
          have z0 := (blk_cell BB.out 0).trans rfl
          by_cases g0 : b0 = 0
          · subst g0
            have HEQ : (ra.toList == rb.toList) = s := by
              cases s
              · exact ans_beq_ne (fun h => HF.out rfl ((HE.out.1 h).2 rfl))
              · exact ans_beq_eq (HE.out.2 ⟨rfl, fun _ => HT.out rfl⟩)
            clear HE HF HT
            go_wp2_with fail
            have BA2 := hd (blk_drew BA.out)
            have BB2 := hd (blk_drew BB.out)
            have HB2 := hd (below_drew1 HB.out)
            clear BA BB HB
            refine start_ (n := 11) (S := fun w' => w'.cell? ⟨w.heap.size, 0, none⟩ = some (.int .i64 0) ∧ w'.cell? ⟨w.heap.size, 1, none⟩ = some (.slice A1 l1.length c1) ∧ w'.cell? ⟨w.heap.size, 2, none⟩ = some (.slice A2 l2.length c2) ∧ w'.cell? ⟨w.heap.size, 3, none⟩ = some (.slice A3 l3.length c3) ∧ w'.cell? ⟨w.heap.size + 1, 0, none⟩ = some (.int .i64 0) ∧ w'.cell? ⟨w.heap.size + 1, 1, none⟩ = some (.slice B1 m1.length d1) ∧ w'.cell? ⟨w.heap.size + 1, 2, none⟩ = some (.slice B2 m2.length d2) ∧ w'.cell? ⟨w.heap.size + 1, 3, none⟩ = some (.slice B3 m3.length d3)) (ds := []) #[false, false, false, false, false, false, false, false, false, false, false] (by kernel_rfl) rfl rfl ⟨(blk_cell BA2.out 0).trans rfl, (blk_cell BA2.out 1).trans rfl, (blk_cell BA2.out 2).trans rfl, (blk_cell BA2.out 3).trans rfl, (blk_cell BB2.out 0).trans rfl, (blk_cell BB2.out 1).trans rfl, (blk_cell BB2.out 2).trans rfl, (blk_cell BB2.out 3).trans rfl⟩ (fun hHeld => ?_)
            refine with_tabW apartR.tab25 apartR.bits25 (fun HT_ HW_ => ?_)
            generalize World.drew _ = w25 at BA2 BB2 HB2 hHeld ⊢
            refine pure_ (i := 0) (N := (some 155)) (v := ?_) (a' := ?_) #[true, false, false, false, false, false, false, false, false, false, false] rfl rfl (any_of HT_.out (by kernel_rfl)) (fun _ _ _ h => h) (Or.inl ⟨by rfl, ?_⟩) ?_ ?_
            rotate_left
            · intro w'
              go_simp
              with_reducible rfl
            rotate_left
            · simp only [Act.put, List.setIfInBounds_toArray, List.set_cons_zero, List.set_cons_succ, i64_w, i32_w]
              rfl
            refine take_ (i := 1) (N := (some 156)) (v := ?_) (a' := ?_) #[true, true, false, false, false, false, false, false, false, false, false] rfl rfl (take_ofW HT_.out HW_.out (by kernel_rfl)) (fun _ _ _ h => h) (Or.inl ⟨by rfl, ?_⟩) hHeld ?_ ?_
            rotate_left
            · rintro w' ⟨s0, s1, s2, s3, s4, s5, s6, s7⟩
              go_simp
              with_reducible rfl
            rotate_left
            · simp only [Act.put, List.setIfInBounds_toArray, List.set_cons_zero, List.set_cons_succ, i64_w, i32_w]
              rfl
            refine take_ (i := 3) (N := (some 158)) (v := ?_) (a' := ?_) #[true, true, false, true, false, false, false, false, false, false, false] rfl rfl (take_ofW HT_.out HW_.out (by kernel_rfl)) (fun _ _ _ h => h) (Or.inl ⟨by rfl, ?_⟩) hHeld ?_ ?_
            rotate_left
            · rintro w' ⟨s0, s1, s2, s3, s4, s5, s6, s7⟩
              go_simp
              with_reducible rfl
            rotate_left
            · simp only [Act.put, List.setIfInBounds_toArray, List.set_cons_zero, List.set_cons_succ, i64_w, i32_w]
              rfl
            refine one_ (i := 2) (N := (some 157)) #[true, true, true, true, false, false, false, false, false, false, false] rfl rfl (one_of HT_.out (by kernel_rfl)) (by decide) (fun K hK => ?_)
            refine goes_ Tryd.func10 (by kernel_rfl) rfl #[.agg #[.int .i64 0, .slice A1 l1.length c1, .slice A2 l2.length c2, .slice A3 l3.length c3]] (by rfl) rfl rfl (by (try simp only [List.map_toArray, List.map_cons, List.map_nil]); first | done | rfl) ?_
            with_reducible refine (table_Answer.calls KF 0 _ _ l1 _ _ l2 _ _ l3 ra _ (Kd.C_below HR1.out HB2.out) HC.out.1.1 (Kd.C_below HR2.out HB2.out) HC.out.1.2.1 (Kd.C_below HR3.out HB2.out) HC.out.1.2.2 (Tabs.below TAB_.out HB2.out) HRA.out).mono ?_
            rintro e w31 ⟨rfl, hb⟩
            refine ⟨_, rfl, ?_⟩
            have BA3 := hd (blk_below BA2.out hb)
            have BB3 := hd (blk_below BB2.out hb)
            have HB3 := hd (below_step HB2.out hb)
            clear hb BA2 BB2 HB2
            refine hK.out _ _ ⟨(blk_cell BA3.out 0).trans rfl, (blk_cell BA3.out 1).trans rfl, (blk_cell BA3.out 2).trans rfl, (blk_cell BA3.out 3).trans rfl, (blk_cell BB3.out 0).trans rfl, (blk_cell BB3.out 1).trans rfl, (blk_cell BB3.out 2).trans rfl, (blk_cell BB3.out 3).trans rfl⟩ (fun hHeld => ?_)
            clear hK K
            refine norm_ (a' := ?_) ?_ ?_
            rotate_left
            · show Act.put _ (some 157) _ = _
              simp only [Act.put, List.setIfInBounds_toArray, List.set_cons_zero, List.set_cons_succ, i64_w, i32_w]
              rfl
            refine one_ (i := 4) (N := (some 159)) #[true, true, true, true, true, false, false, false, false, false, false] rfl rfl (one_of HT_.out (by kernel_rfl)) (by decide) (fun K hK => ?_)
            refine goes_ Tryd.func10 (by kernel_rfl) rfl #[.agg #[.int .i64 0, .slice B1 m1.length d1, .slice B2 m2.length d2, .slice B3 m3.length d3]] (by rfl) rfl rfl (by (try simp only [List.map_toArray, List.map_cons, List.map_nil]); first | done | rfl) ?_
            with_reducible refine (table_Answer.calls KF 0 _ _ m1 _ _ m2 _ _ m3 rb _ (Kd.C_below GR1.out HB3.out) HC.out.2.1 (Kd.C_below GR2.out HB3.out) HC.out.2.2.1 (Kd.C_below GR3.out HB3.out) HC.out.2.2.2 (Tabs.below TAB_.out HB3.out) HRB.out).mono ?_
            rintro e w32 ⟨rfl, hb⟩
            refine ⟨_, rfl, ?_⟩
            have BA4 := hd (blk_below BA3.out hb)
            have BB4 := hd (blk_below BB3.out hb)
            have HB4 := hd (below_step HB3.out hb)
            clear hb BA3 BB3 HB3
            refine hK.out _ _ ⟨(blk_cell BA4.out 0).trans rfl, (blk_cell BA4.out 1).trans rfl, (blk_cell BA4.out 2).trans rfl, (blk_cell BA4.out 3).trans rfl, (blk_cell BB4.out 0).trans rfl, (blk_cell BB4.out 1).trans rfl, (blk_cell BB4.out 2).trans rfl, (blk_cell BB4.out 3).trans rfl⟩ (fun hHeld => ?_)
            clear hK K
            refine norm_ (a' := ?_) ?_ ?_
            rotate_left
            · show Act.put _ (some 159) _ = _
              simp only [Act.put, List.setIfInBounds_toArray, List.set_cons_zero, List.set_cons_succ, i64_w, i32_w]
              rfl
            refine pure_ (i := 5) (N := (some 160)) (v := ?_) (a' := ?_) #[true, true, true, true, true, true, false, false, false, false, false] rfl rfl (any_of HT_.out (by kernel_rfl)) (fun _ _ _ h => h) (Or.inl ⟨by rfl, ?_⟩) ?_ ?_
            rotate_left
            · intro w'
              go_simp
              with_reducible rfl
            rotate_left
            · simp only [Act.put, List.setIfInBounds_toArray, List.set_cons_zero, List.set_cons_succ, i64_w, i32_w]
              rfl
            refine pure_ (i := 6) (N := (some 161)) (v := ?_) (a' := ?_) #[true, true, true, true, true, true, true, false, false, false, false] rfl rfl (any_of HT_.out (by kernel_rfl)) (fun _ _ _ h => h) (Or.inl ⟨by rfl, ?_⟩) ?_ ?_
            rotate_left
            · intro w'
              go_simp
              with_reducible rfl
            rotate_left
            · simp only [Act.put, List.setIfInBounds_toArray, List.set_cons_zero, List.set_cons_succ, i64_w, i32_w]
              rfl
            refine pure_ (i := 7) (N := (some 162)) (v := ?_) (a' := ?_) #[true, true, true, true, true, true, true, true, false, false, false] rfl rfl (any_of HT_.out (by kernel_rfl)) (fun _ _ _ h => h) (Or.inl ⟨by rfl, ?_⟩) ?_ ?_
            rotate_left
            · intro w'
              go_simp
              with_reducible rfl
            rotate_left
            · simp only [Act.put, List.setIfInBounds_toArray, List.set_cons_zero, List.set_cons_succ, i64_w, i32_w]
              rfl
            refine one_ (i := 8) (N := (some 163)) #[true, true, true, true, true, true, true, true, true, false, false] rfl rfl (one_of HT_.out (by kernel_rfl)) (by decide) (fun K hK => ?_)
            refine goes_ Tryd.func9 (by kernel_rfl) rfl #[] (by rfl) rfl rfl (by (try simp only [List.map_toArray, List.map_cons, List.map_nil]); first | done | rfl) ?_
            with_reducible refine (HAW.out _ (Tabs.below TAB_.out HB4.out)).mono ?_
            rintro e w33 ⟨rfl, hb⟩
            refine ⟨_, rfl, ?_⟩
            have BA5 := hd (blk_below BA4.out hb)
            have BB5 := hd (blk_below BB4.out hb)
            have HB5 := hd (below_step HB4.out hb)
            clear hb BA4 BB4 HB4
            refine hK.out _ _ ⟨(blk_cell BA5.out 0).trans rfl, (blk_cell BA5.out 1).trans rfl, (blk_cell BA5.out 2).trans rfl, (blk_cell BA5.out 3).trans rfl, (blk_cell BB5.out 0).trans rfl, (blk_cell BB5.out 1).trans rfl, (blk_cell BB5.out 2).trans rfl, (blk_cell BB5.out 3).trans rfl⟩ (fun hHeld => ?_)
            clear hK K
            refine norm_ (a' := ?_) ?_ ?_
            rotate_left
            · show Act.put _ (some 163) _ = _
              simp only [Act.put, List.setIfInBounds_toArray, List.set_cons_zero, List.set_cons_succ, i64_w, i32_w]
              rfl
            refine pure_ (i := 9) (N := (some 164)) (v := ?_) (a' := ?_) #[true, true, true, true, true, true, true, true, true, true, false] rfl rfl (any_of HT_.out (by kernel_rfl)) (fun _ _ _ h => h) (Or.inl ⟨by rfl, ?_⟩) ?_ ?_
            rotate_left
            · intro w'
              go_simp
              with_reducible rfl
            rotate_left
            · simp only [Act.put, List.setIfInBounds_toArray, List.set_cons_zero, List.set_cons_succ, i64_w, i32_w]
              rfl
            refine pure_ (i := 10) (N := (some 4)) (v := ?_) (a' := ?_) #[true, true, true, true, true, true, true, true, true, true, true] rfl rfl (any_of HT_.out (by kernel_rfl)) (fun _ _ _ h => h) (Or.inl ⟨by rfl, ?_⟩) ?_ ?_
            rotate_left
            · intro w'
              go_simp
              with_reducible rfl
            rotate_left
            · simp only [Act.put, List.setIfInBounds_toArray, List.set_cons_zero, List.set_cons_succ, i64_w, i32_w]
              rfl
            refine done_ (done_of HT_.out (by kernel_rfl)) ?_
            clear HT_ HW_
            try go_wp2
            go_ret
            exact ⟨rfl, HB5.out⟩
          · have HEQ : (ra.toList == rb.toList) = false := ans_beq_ne (fun h => g0 (HE.out.1 h).1.symm)
            have HE0 : ((0 : Int) == b0) = false := beq_eq_false_iff_ne.mpr (fun h => g0 h.symm)
            have HE1 : (b0 != 0) = true := bne_iff_ne.mpr g0
            clear HE HF HT g0
            go_wp2_with fail
            have BA2 := hd (blk_drew BA.out)
            have BB2 := hd (blk_drew BB.out)
            have HB2 := hd (below_drew1 HB.out)
            clear BA BB HB
            refine start_ (n := 15) (S := fun w' => w'.cell? ⟨w.heap.size, 0, none⟩ = some (.int .i64 0) ∧ w'.cell? ⟨w.heap.size, 1, none⟩ = some (.slice A1 l1.length c1) ∧ w'.cell? ⟨w.heap.size, 2, none⟩ = some (.slice A2 l2.length c2) ∧ w'.cell? ⟨w.heap.size, 3, none⟩ = some (.slice A3 l3.length c3) ∧ w'.cell? ⟨w.heap.size + 1, 0, none⟩ = some (.int .i64 b0) ∧ w'.cell? ⟨w.heap.size + 1, 1, none⟩ = some (.slice B1 m1.length d1) ∧ w'.cell? ⟨w.heap.size + 1, 2, none⟩ = some (.slice B2 m2.length d2) ∧ w'.cell? ⟨w.heap.size + 1, 3, none⟩ = some (.slice B3 m3.length d3)) (ds := []) #[false, false, false, false, false, false, false, false, false, false, false, false, false, false, false] (by kernel_rfl) rfl rfl ⟨(blk_cell BA2.out 0).trans rfl, (blk_cell BA2.out 1).trans rfl, (blk_cell BA2.out 2).trans rfl, (blk_cell BA2.out 3).trans rfl, (blk_cell BB2.out 0).trans rfl, (blk_cell BB2.out 1).trans rfl, (blk_cell BB2.out 2).trans rfl, (blk_cell BB2.out 3).trans rfl⟩ (fun hHeld => ?_)
            refine with_tabW apartR.tab24 apartR.bits24 (fun HT_ HW_ => ?_)
            generalize World.drew _ = w25 at BA2 BB2 HB2 hHeld ⊢
            refine pure_ (i := 0) (N := (some 141)) (v := ?_) (a' := ?_) #[true, false, false, false, false, false, false, false, false, false, false, false, false, false, false] rfl rfl (any_of HT_.out (by kernel_rfl)) (fun _ _ _ h => h) (Or.inl ⟨by rfl, ?_⟩) ?_ ?_
            rotate_left
            · intro w'
              go_simp
              with_reducible rfl
            rotate_left
            · simp only [Act.put, List.setIfInBounds_toArray, List.set_cons_zero, List.set_cons_succ, i64_w, i32_w]
              rfl
            refine take_ (i := 1) (N := (some 142)) (v := ?_) (a' := ?_) #[true, true, false, false, false, false, false, false, false, false, false, false, false, false, false] rfl rfl (take_ofW HT_.out HW_.out (by kernel_rfl)) (fun _ _ _ h => h) (Or.inl ⟨by rfl, ?_⟩) hHeld ?_ ?_
            rotate_left
            · rintro w' ⟨s0, s1, s2, s3, s4, s5, s6, s7⟩
              go_simp
              with_reducible rfl
            rotate_left
            · simp only [Act.put, List.setIfInBounds_toArray, List.set_cons_zero, List.set_cons_succ, i64_w, i32_w]
              rfl
            refine pure_ (i := 2) (N := (some 143)) (v := ?_) (a' := ?_) #[true, true, true, false, false, false, false, false, false, false, false, false, false, false, false] rfl rfl (any_of HT_.out (by kernel_rfl)) (fun _ _ _ h => h) (Or.inl ⟨by rfl, ?_⟩) ?_ ?_
            rotate_left
            · intro w'
              go_simp
              with_reducible rfl
            rotate_left
            · simp only [Act.put, List.setIfInBounds_toArray, List.set_cons_zero, List.set_cons_succ, i64_w, i32_w]
              rfl
            refine take_ (i := 3) (N := (some 144)) (v := ?_) (a' := ?_) #[true, true, true, true, false, false, false, false, false, false, false, false, false, false, false] rfl rfl (take_ofW HT_.out HW_.out (by kernel_rfl)) (fun _ _ _ h => h) (Or.inl ⟨by rfl, ?_⟩) hHeld ?_ ?_
            rotate_left
            · rintro w' ⟨s0, s1, s2, s3, s4, s5, s6, s7⟩
              go_simp
              with_reducible rfl
            rotate_left
            · simp only [Act.put, List.setIfInBounds_toArray, List.set_cons_zero, List.set_cons_succ, i64_w, i32_w]
              rfl
            refine pure_ (i := 4) (N := (some 145)) (v := ?_) (a' := ?_) #[true, true, true, true, true, false, false, false, false, false, false, false, false, false, false] rfl rfl (any_of HT_.out (by kernel_rfl)) (fun _ _ _ h => h) (Or.inl ⟨by rfl, ?_⟩) ?_ ?_
            rotate_left
            · intro w'
              go_simp
              with_reducible rfl
            rotate_left
            · simp only [Act.put, List.setIfInBounds_toArray, List.set_cons_zero, List.set_cons_succ, i64_w, i32_w]
              rfl
            refine take_ (i := 5) (N := (some 146)) (v := ?_) (a' := ?_) #[true, true, true, true, true, true, false, false, false, false, false, false, false, false, false] rfl rfl (take_ofW HT_.out HW_.out (by kernel_rfl)) (fun _ _ _ h => h) (Or.inl ⟨by rfl, ?_⟩) hHeld ?_ ?_
            rotate_left
            · rintro w' ⟨s0, s1, s2, s3, s4, s5, s6, s7⟩
              go_simp
              with_reducible rfl
            rotate_left
            · simp only [Act.put, List.setIfInBounds_toArray, List.set_cons_zero, List.set_cons_succ, i64_w, i32_w]
              rfl
            refine take_ (i := 7) (N := (some 148)) (v := ?_) (a' := ?_) #[true, true, true, true, true, true, false, true, false, false, false, false, false, false, false] rfl rfl (take_ofW HT_.out HW_.out (by kernel_rfl)) (fun _ _ _ h => h) (Or.inl ⟨by rfl, ?_⟩) hHeld ?_ ?_
            rotate_left
            · rintro w' ⟨s0, s1, s2, s3, s4, s5, s6, s7⟩
              go_simp
              with_reducible rfl
            rotate_left
            · simp only [Act.put, List.setIfInBounds_toArray, List.set_cons_zero, List.set_cons_succ, i64_w, i32_w]
              rfl
            refine one_ (i := 6) (N := (some 147)) #[true, true, true, true, true, true, true, true, false, false, false, false, false, false, false] rfl rfl (one_of HT_.out (by kernel_rfl)) (by decide) (fun K hK => ?_)
            refine goes_ Tryd.func10 (by kernel_rfl) rfl #[.agg #[.int .i64 0, .slice A1 l1.length c1, .slice A2 l2.length c2, .slice A3 l3.length c3]] (by rfl) rfl rfl (by (try simp only [List.map_toArray, List.map_cons, List.map_nil]); first | done | rfl) ?_
            with_reducible refine (table_Answer.calls KF 0 _ _ l1 _ _ l2 _ _ l3 ra _ (Kd.C_below HR1.out HB2.out) HC.out.1.1 (Kd.C_below HR2.out HB2.out) HC.out.1.2.1 (Kd.C_below HR3.out HB2.out) HC.out.1.2.2 (Tabs.below TAB_.out HB2.out) HRA.out).mono ?_
            rintro e w31 ⟨rfl, hb⟩
            refine ⟨_, rfl, ?_⟩
            have BA3 := hd (blk_below BA2.out hb)
            have BB3 := hd (blk_below BB2.out hb)
            have HB3 := hd (below_step HB2.out hb)
            clear hb BA2 BB2 HB2
            refine hK.out _ _ ⟨(blk_cell BA3.out 0).trans rfl, (blk_cell BA3.out 1).trans rfl, (blk_cell BA3.out 2).trans rfl, (blk_cell BA3.out 3).trans rfl, (blk_cell BB3.out 0).trans rfl, (blk_cell BB3.out 1).trans rfl, (blk_cell BB3.out 2).trans rfl, (blk_cell BB3.out 3).trans rfl⟩ (fun hHeld => ?_)
            clear hK K
            refine norm_ (a' := ?_) ?_ ?_
            rotate_left
            · show Act.put _ (some 147) _ = _
              simp only [Act.put, List.setIfInBounds_toArray, List.set_cons_zero, List.set_cons_succ, i64_w, i32_w]
              rfl
            refine one_ (i := 8) (N := (some 149)) #[true, true, true, true, true, true, true, true, true, false, false, false, false, false, false] rfl rfl (one_of HT_.out (by kernel_rfl)) (by decide) (fun K hK => ?_)
            refine goes_ Tryd.func10 (by kernel_rfl) rfl #[.agg #[.int .i64 b0, .slice B1 m1.length d1, .slice B2 m2.length d2, .slice B3 m3.length d3]] (by rfl) rfl rfl (by (try simp only [List.map_toArray, List.map_cons, List.map_nil]); first | done | rfl) ?_
            with_reducible refine (table_Answer.calls KF b0 _ _ m1 _ _ m2 _ _ m3 rb _ (Kd.C_below GR1.out HB3.out) HC.out.2.1 (Kd.C_below GR2.out HB3.out) HC.out.2.2.1 (Kd.C_below GR3.out HB3.out) HC.out.2.2.2 (Tabs.below TAB_.out HB3.out) HRB.out).mono ?_
            rintro e w32 ⟨rfl, hb⟩
            refine ⟨_, rfl, ?_⟩
            have BA4 := hd (blk_below BA3.out hb)
            have BB4 := hd (blk_below BB3.out hb)
            have HB4 := hd (below_step HB3.out hb)
            clear hb BA3 BB3 HB3
            refine hK.out _ _ ⟨(blk_cell BA4.out 0).trans rfl, (blk_cell BA4.out 1).trans rfl, (blk_cell BA4.out 2).trans rfl, (blk_cell BA4.out 3).trans rfl, (blk_cell BB4.out 0).trans rfl, (blk_cell BB4.out 1).trans rfl, (blk_cell BB4.out 2).trans rfl, (blk_cell BB4.out 3).trans rfl⟩ (fun hHeld => ?_)
            clear hK K
            refine norm_ (a' := ?_) ?_ ?_
            rotate_left
            · show Act.put _ (some 149) _ = _
              simp only [Act.put, List.setIfInBounds_toArray, List.set_cons_zero, List.set_cons_succ, i64_w, i32_w]
              rfl
            refine pure_ (i := 9) (N := (some 150)) (v := ?_) (a' := ?_) #[true, true, true, true, true, true, true, true, true, true, false, false, false, false, false] rfl rfl (any_of HT_.out (by kernel_rfl)) (fun _ _ _ h => h) (Or.inl ⟨by rfl, ?_⟩) ?_ ?_
            rotate_left
            · intro w'
              go_simp
              with_reducible rfl
            rotate_left
            · simp only [Act.put, List.setIfInBounds_toArray, List.set_cons_zero, List.set_cons_succ, i64_w, i32_w]
              rfl
            refine pure_ (i := 10) (N := (some 151)) (v := ?_) (a' := ?_) #[true, true, true, true, true, true, true, true, true, true, true, false, false, false, false] rfl rfl (any_of HT_.out (by kernel_rfl)) (fun _ _ _ h => h) (Or.inl ⟨by rfl, ?_⟩) ?_ ?_
            rotate_left
            · intro w'
              go_simp
              with_reducible rfl
            rotate_left
            · simp only [Act.put, List.setIfInBounds_toArray, List.set_cons_zero, List.set_cons_succ, i64_w, i32_w]
              rfl
            refine pure_ (i := 11) (N := (some 152)) (v := ?_) (a' := ?_) #[true, true, true, true, true, true, true, true, true, true, true, true, false, false, false] rfl rfl (any_of HT_.out (by kernel_rfl)) (fun _ _ _ h => h) (Or.inl ⟨by rfl, ?_⟩) ?_ ?_
            rotate_left
            · intro w'
              go_simp
              with_reducible rfl
            rotate_left
            · simp only [Act.put, List.setIfInBounds_toArray, List.set_cons_zero, List.set_cons_succ, i64_w, i32_w]
              rfl
            refine one_ (i := 12) (N := (some 153)) #[true, true, true, true, true, true, true, true, true, true, true, true, true, false, false] rfl rfl (one_of HT_.out (by kernel_rfl)) (by decide) (fun K hK => ?_)
            refine goes_ Tryd.func9 (by kernel_rfl) rfl #[] (by rfl) rfl rfl (by (try simp only [List.map_toArray, List.map_cons, List.map_nil]); first | done | rfl) ?_
            with_reducible refine (HAW.out _ (Tabs.below TAB_.out HB4.out)).mono ?_
            rintro e w33 ⟨rfl, hb⟩
            refine ⟨_, rfl, ?_⟩
            have BA5 := hd (blk_below BA4.out hb)
            have BB5 := hd (blk_below BB4.out hb)
            have HB5 := hd (below_step HB4.out hb)
            clear hb BA4 BB4 HB4
            refine hK.out _ _ ⟨(blk_cell BA5.out 0).trans rfl, (blk_cell BA5.out 1).trans rfl, (blk_cell BA5.out 2).trans rfl, (blk_cell BA5.out 3).trans rfl, (blk_cell BB5.out 0).trans rfl, (blk_cell BB5.out 1).trans rfl, (blk_cell BB5.out 2).trans rfl, (blk_cell BB5.out 3).trans rfl⟩ (fun hHeld => ?_)
            clear hK K
            refine norm_ (a' := ?_) ?_ ?_
            rotate_left
            · show Act.put _ (some 153) _ = _
              simp only [Act.put, List.setIfInBounds_toArray, List.set_cons_zero, List.set_cons_succ, i64_w, i32_w]
              rfl
            refine pure_ (i := 13) (N := (some 154)) (v := ?_) (a' := ?_) #[true, true, true, true, true, true, true, true, true, true, true, true, true, true, false] rfl rfl (any_of HT_.out (by kernel_rfl)) (fun _ _ _ h => h) (Or.inl ⟨by rfl, ?_⟩) ?_ ?_
            rotate_left
            · intro w'
              go_simp
              with_reducible rfl
            rotate_left
            · simp only [Act.put, List.setIfInBounds_toArray, List.set_cons_zero, List.set_cons_succ, i64_w, i32_w]
              rfl
            refine pure_ (i := 14) (N := (some 4)) (v := ?_) (a' := ?_) #[true, true, true, true, true, true, true, true, true, true, true, true, true, true, true] rfl rfl (any_of HT_.out (by kernel_rfl)) (fun _ _ _ h => h) (Or.inl ⟨by rfl, ?_⟩) ?_ ?_
            rotate_left
            · intro w'
              go_simp
              with_reducible rfl
            rotate_left
            · simp only [Act.put, List.setIfInBounds_toArray, List.set_cons_zero, List.set_cons_succ, i64_w, i32_w]
              rfl
            refine done_ (done_of HT_.out (by kernel_rfl)) ?_
            clear HT_ HW_
            try go_wp2
            go_ret
            exact ⟨rfl, HB5.out⟩
        · have y0 := (blk_cell BA.out 0).trans rfl
          have z0 := (blk_cell BB.out 0).trans rfl
          have HE1 : (a0 != 0) = true := bne_iff_ne.mpr h0
          obtain ⟨t, HE0, HEQ⟩ : ∃ t : Bool, (a0 == b0) = t ∧ (ra.toList == rb.toList) = t := by
            by_cases g : a0 = b0
            · exact ⟨true, beq_iff_eq.mpr g, ans_beq_eq (HE.out.2 ⟨g, fun h => absurd h h0⟩)⟩
            · exact ⟨false, beq_eq_false_iff_ne.mpr g, ans_beq_ne (fun h => g (HE.out.1 h).1)⟩
          clear HE HF HT h0
          go_wp2_with fail
          have BA2 := hd (blk_drew BA.out)
          have BB2 := hd (blk_drew BB.out)
          have HB2 := hd (below_drew1 HB.out)
          clear BA BB HB
          refine start_ (n := 15) (S := fun w' => w'.cell? ⟨w.heap.size, 0, none⟩ = some (.int .i64 a0) ∧ w'.cell? ⟨w.heap.size, 1, none⟩ = some (.slice A1 l1.length c1) ∧ w'.cell? ⟨w.heap.size, 2, none⟩ = some (.slice A2 l2.length c2) ∧ w'.cell? ⟨w.heap.size, 3, none⟩ = some (.slice A3 l3.length c3) ∧ w'.cell? ⟨w.heap.size + 1, 0, none⟩ = some (.int .i64 b0) ∧ w'.cell? ⟨w.heap.size + 1, 1, none⟩ = some (.slice B1 m1.length d1) ∧ w'.cell? ⟨w.heap.size + 1, 2, none⟩ = some (.slice B2 m2.length d2) ∧ w'.cell? ⟨w.heap.size + 1, 3, none⟩ = some (.slice B3 m3.length d3)) (ds := []) #[false, false, false, false, false, false, false, false, false, false, false, false, false, false, false] (by kernel_rfl) rfl rfl ⟨(blk_cell BA2.out 0).trans rfl, (blk_cell BA2.out 1).trans rfl, (blk_cell BA2.out 2).trans rfl, (blk_cell BA2.out 3).trans rfl, (blk_cell BB2.out 0).trans rfl, (blk_cell BB2.out 1).trans rfl, (blk_cell BB2.out 2).trans rfl, (blk_cell BB2.out 3).trans rfl⟩ (fun hHeld => ?_)
          refine with_tabW apartR.tab24 apartR.bits24 (fun HT_ HW_ => ?_)
          generalize World.drew _ = w25 at BA2 BB2 HB2 hHeld ⊢
          refine pure_ (i := 0) (N := (some 141)) (v := ?_) (a' := ?_) #[true, false, false, false, false, false, false, false, false, false, false, false, false, false, false] rfl rfl (any_of HT_.out (by kernel_rfl)) (fun _ _ _ h => h) (Or.inl ⟨by rfl, ?_⟩) ?_ ?_
          rotate_left
          · intro w'
            go_simp
            with_reducible rfl
          rotate_left
          · simp only [Act.put, List.setIfInBounds_toArray, List.set_cons_zero, List.set_cons_succ, i64_w, i32_w]
            rfl
          refine take_ (i := 1) (N := (some 142)) (v := ?_) (a' := ?_) #[true, true, false, false, false, false, false, false, false, false, false, false, false, false, false] rfl rfl (take_ofW HT_.out HW_.out (by kernel_rfl)) (fun _ _ _ h => h) (Or.inl ⟨by rfl, ?_⟩) hHeld ?_ ?_
          rotate_left
          · rintro w' ⟨s0, s1, s2, s3, s4, s5, s6, s7⟩
            go_simp
            with_reducible rfl
          rotate_left
          · simp only [Act.put, List.setIfInBounds_toArray, List.set_cons_zero, List.set_cons_succ, i64_w, i32_w]
            rfl
          refine pure_ (i := 2) (N := (some 143)) (v := ?_) (a' := ?_) #[true, true, true, false, false, false, false, false, false, false, false, false, false, false, false] rfl rfl (any_of HT_.out (by kernel_rfl)) (fun _ _ _ h => h) (Or.inl ⟨by rfl, ?_⟩) ?_ ?_
          rotate_left
          · intro w'
            go_simp
            with_reducible rfl
          rotate_left
          · simp only [Act.put, List.setIfInBounds_toArray, List.set_cons_zero, List.set_cons_succ, i64_w, i32_w]
            rfl
          refine take_ (i := 3) (N := (some 144)) (v := ?_) (a' := ?_) #[true, true, true, true, false, false, false, false, false, false, false, false, false, false, false] rfl rfl (take_ofW HT_.out HW_.out (by kernel_rfl)) (fun _ _ _ h => h) (Or.inl ⟨by rfl, ?_⟩) hHeld ?_ ?_
          rotate_left
          · rintro w' ⟨s0, s1, s2, s3, s4, s5, s6, s7⟩
            go_simp
            with_reducible rfl
          rotate_left
          · simp only [Act.put, List.setIfInBounds_toArray, List.set_cons_zero, List.set_cons_succ, i64_w, i32_w]
            rfl
          refine pure_ (i := 4) (N := (some 145)) (v := ?_) (a' := ?_) #[true, true, true, true, true, false, false, false, false, false, false, false, false, false, false] rfl rfl (any_of HT_.out (by kernel_rfl)) (fun _ _ _ h => h) (Or.inl ⟨by rfl, ?_⟩) ?_ ?_
          rotate_left
          · intro w'
            go_simp
            with_reducible rfl
          rotate_left
          · simp only [Act.put, List.setIfInBounds_toArray, List.set_cons_zero, List.set_cons_succ, i64_w, i32_w]
            rfl
          refine take_ (i := 5) (N := (some 146)) (v := ?_) (a' := ?_) #[true, true, true, true, true, true, false, false, false, false, false, false, false, false, false] rfl rfl (take_ofW HT_.out HW_.out (by kernel_rfl)) (fun _ _ _ h => h) (Or.inl ⟨by rfl, ?_⟩) hHeld ?_ ?_
          rotate_left
          · rintro w' ⟨s0, s1, s2, s3, s4, s5, s6, s7⟩
            go_simp
            with_reducible rfl
          rotate_left
          · simp only [Act.put, List.setIfInBounds_toArray, List.set_cons_zero, List.set_cons_succ, i64_w, i32_w]
            rfl
          refine take_ (i := 7) (N := (some 148)) (v := ?_) (a' := ?_) #[true, true, true, true, true, true, false, true, false, false, false, false, false, false, false] rfl rfl (take_ofW HT_.out HW_.out (by kernel_rfl)) (fun _ _ _ h => h) (Or.inl ⟨by rfl, ?_⟩) hHeld ?_ ?_
          rotate_left
          · rintro w' ⟨s0, s1, s2, s3, s4, s5, s6, s7⟩
            go_simp
            with_reducible rfl
          rotate_left
          · simp only [Act.put, List.setIfInBounds_toArray, List.set_cons_zero, List.set_cons_succ, i64_w, i32_w]
            rfl
          refine one_ (i := 6) (N := (some 147)) #[true, true, true, true, true, true, true, true, false, false, false, false, false, false, false] rfl rfl (one_of HT_.out (by kernel_rfl)) (by decide) (fun K hK => ?_)
          refine goes_ Tryd.func10 (by kernel_rfl) rfl #[.agg #[.int .i64 a0, .slice A1 l1.length c1, .slice A2 l2.length c2, .slice A3 l3.length c3]] (by rfl) rfl rfl (by (try simp only [List.map_toArray, List.map_cons, List.map_nil]); first | done | rfl) ?_
          with_reducible refine (table_Answer.calls KF a0 _ _ l1 _ _ l2 _ _ l3 ra _ (Kd.C_below HR1.out HB2.out) HC.out.1.1 (Kd.C_below HR2.out HB2.out) HC.out.1.2.1 (Kd.C_below HR3.out HB2.out) HC.out.1.2.2 (Tabs.below TAB_.out HB2.out) HRA.out).mono ?_
          rintro e w31 ⟨rfl, hb⟩
          refine ⟨_, rfl, ?_⟩
          have BA3 := hd (blk_below BA2.out hb)
          have BB3 := hd (blk_below BB2.out hb)
          have HB3 := hd (below_step HB2.out hb)
          clear hb BA2 BB2 HB2
          refine hK.out _ _ ⟨(blk_cell BA3.out 0).trans rfl, (blk_cell BA3.out 1).trans rfl, (blk_cell BA3.out 2).trans rfl, (blk_cell BA3.out 3).trans rfl, (blk_cell BB3.out 0).trans rfl, (blk_cell BB3.out 1).trans rfl, (blk_cell BB3.out 2).trans rfl, (blk_cell BB3.out 3).trans rfl⟩ (fun hHeld => ?_)
          clear hK K
          refine norm_ (a' := ?_) ?_ ?_
          rotate_left
          · show Act.put _ (some 147) _ = _
            simp only [Act.put, List.setIfInBounds_toArray, List.set_cons_zero, List.set_cons_succ, i64_w, i32_w]
            rfl
          refine one_ (i := 8) (N := (some 149)) #[true, true, true, true, true, true, true, true, true, false, false, false, false, false, false] rfl rfl (one_of HT_.out (by kernel_rfl)) (by decide) (fun K hK => ?_)
          refine goes_ Tryd.func10 (by kernel_rfl) rfl #[.agg #[.int .i64 b0, .slice B1 m1.length d1, .slice B2 m2.length d2, .slice B3 m3.length d3]] (by rfl) rfl rfl (by (try simp only [List.map_toArray, List.map_cons, List.map_nil]); first | done | rfl) ?_
          with_reducible refine (table_Answer.calls KF b0 _ _ m1 _ _ m2 _ _ m3 rb _ (Kd.C_below GR1.out HB3.out) HC.out.2.1 (Kd.C_below GR2.out HB3.out) HC.out.2.2.1 (Kd.C_below GR3.out HB3.out) HC.out.2.2.2 (Tabs.below TAB_.out HB3.out) HRB.out).mono ?_
          rintro e w32 ⟨rfl, hb⟩
          refine ⟨_, rfl, ?_⟩
          have BA4 := hd (blk_below BA3.out hb)
          have BB4 := hd (blk_below BB3.out hb)
          have HB4 := hd (below_step HB3.out hb)
          clear hb BA3 BB3 HB3
          refine hK.out _ _ ⟨(blk_cell BA4.out 0).trans rfl, (blk_cell BA4.out 1).trans rfl, (blk_cell BA4.out 2).trans rfl, (blk_cell BA4.out 3).trans rfl, (blk_cell BB4.out 0).trans rfl, (blk_cell BB4.out 1).trans rfl, (blk_cell BB4.out 2).trans rfl, (blk_cell BB4.out 3).trans rfl⟩ (fun hHeld => ?_)
          clear hK K
          refine norm_ (a' := ?_) ?_ ?_
          rotate_left
          · show Act.put _ (some 149) _ = _
            simp only [Act.put, List.setIfInBounds_toArray, List.set_cons_zero, List.set_cons_succ, i64_w, i32_w]
            rfl
          refine pure_ (i := 9) (N := (some 150)) (v := ?_) (a' := ?_) #[true, true, true, true, true, true, true, true, true, true, false, false, false, false, false] rfl rfl (any_of HT_.out (by kernel_rfl)) (fun _ _ _ h => h) (Or.inl ⟨by rfl, ?_⟩) ?_ ?_
          rotate_left
          · intro w'
            go_simp
            with_reducible rfl
          rotate_left
          · simp only [Act.put, List.setIfInBounds_toArray, List.set_cons_zero, List.set_cons_succ, i64_w, i32_w]
            rfl
          refine pure_ (i := 10) (N := (some 151)) (v := ?_) (a' := ?_) #[true, true, true, true, true, true, true, true, true, true, true, false, false, false, false] rfl rfl (any_of HT_.out (by kernel_rfl)) (fun _ _ _ h => h) (Or.inl ⟨by rfl, ?_⟩) ?_ ?_
          rotate_left
          · intro w'
            go_simp
            with_reducible rfl
          rotate_left
          · simp only [Act.put, List.setIfInBounds_toArray, List.set_cons_zero, List.set_cons_succ, i64_w, i32_w]
            rfl
          refine pure_ (i := 11) (N := (some 152)) (v := ?_) (a' := ?_) #[true, true, true, true, true, true, true, true, true, true, true, true, false, false, false] rfl rfl (any_of HT_.out (by kernel_rfl)) (fun _ _ _ h => h) (Or.inl ⟨by rfl, ?_⟩) ?_ ?_
          rotate_left
          · intro w'
            go_simp
            with_reducible rfl
          rotate_left
          · simp only [Act.put, List.setIfInBounds_toArray, List.set_cons_zero, List.set_cons_succ, i64_w, i32_w]
            rfl
          refine one_ (i := 12) (N := (some 153)) #[true, true, true, true, true, true, true, true, true, true, true, true, true, false, false] rfl rfl (one_of HT_.out (by kernel_rfl)) (by decide) (fun K hK => ?_)
          refine goes_ Tryd.func9 (by kernel_rfl) rfl #[] (by rfl) rfl rfl (by (try simp only [List.map_toArray, List.map_cons, List.map_nil]); first | done | rfl) ?_
          with_reducible refine (HAW.out _ (Tabs.below TAB_.out HB4.out)).mono ?_
          rintro e w33 ⟨rfl, hb⟩
          refine ⟨_, rfl, ?_⟩
          have BA5 := hd (blk_below BA4.out hb)
          have BB5 := hd (blk_below BB4.out hb)
          have HB5 := hd (below_step HB4.out hb)
          clear hb BA4 BB4 HB4
          refine hK.out _ _ ⟨(blk_cell BA5.out 0).trans rfl, (blk_cell BA5.out 1).trans rfl, (blk_cell BA5.out 2).trans rfl, (blk_cell BA5.out 3).trans rfl, (blk_cell BB5.out 0).trans rfl, (blk_cell BB5.out 1).trans rfl, (blk_cell BB5.out 2).trans rfl, (blk_cell BB5.out 3).trans rfl⟩ (fun hHeld => ?_)
          clear hK K
          refine norm_ (a' := ?_) ?_ ?_
          rotate_left
          · show Act.put _ (some 153) _ = _
            simp only [Act.put, List.setIfInBounds_toArray, List.set_cons_zero, List.set_cons_succ, i64_w, i32_w]
            rfl
          refine pure_ (i := 13) (N := (some 154)) (v := ?_) (a' := ?_) #[true, true, true, true, true, true, true, true, true, true, true, true, true, true, false] rfl rfl (any_of HT_.out (by kernel_rfl)) (fun _ _ _ h => h) (Or.inl ⟨by rfl, ?_⟩) ?_ ?_
          rotate_left
          · intro w'
            go_simp
            with_reducible rfl
          rotate_left
          · simp only [Act.put, List.setIfInBounds_toArray, List.set_cons_zero, List.set_cons_succ, i64_w, i32_w]
            rfl
          refine pure_ (i := 14) (N := (some 4)) (v := ?_) (a' := ?_) #[true, true, true, true, true, true, true, true, true, true, true, true, true, true, true] rfl rfl (any_of HT_.out (by kernel_rfl)) (fun _ _ _ h => h) (Or.inl ⟨by rfl, ?_⟩) ?_ ?_
          rotate_left
          · intro w'
            go_simp
            with_reducible rfl
          rotate_left
          · simp only [Act.put, List.setIfInBounds_toArray, List.set_cons_zero, List.set_cons_succ, i64_w, i32_w]
            rfl
          refine done_ (done_of HT_.out (by kernel_rfl)) ?_
          clear HT_ HW_
          try go_wp2
          go_ret
          exact ⟨rfl, HB5.out⟩
/-! ### The contract -/
def apB (e : Int) (l1 : List Int) (l2 : List S31) (l3 : List S36) : Bool :=
  in64 e && l1.all in64 && l2.all (fun o => in64 o.f0 && decide (0 ≤ o.f1) && decide (o.f1 < 256)) && l3.all (fun o => in64 o.f0 && decide (0 ≤ o.f1) && decide (o.f1 < 4294967296)) && decide (l1.length ≤ 17592186044416) && decide (l2.length ≤ 17592186044416) && decide (l3.length ≤ 17592186044416)
theorem apB_iff (e : Int) (l1 : List Int) (l2 : List S31) (l3 : List S36) : apB e l1 l2 l3 = true ↔ (I64 e ∧ (∀ n ∈ l1, I64 n) ∧ (∀ o ∈ l2, okO o) ∧ (∀ o ∈ l3, okS o) ∧ l1.length ≤ 17592186044416 ∧ l2.length ≤ 17592186044416 ∧ l3.length ≤ 17592186044416) := by
  unfold apB in64 I64 okO okS I64
  simp only [Bool.and_eq_true, decide_eq_true_eq, List.all_eq_true, and_assoc]
def musterlaw31_TableApart.f (a0 : Int) (l1 : List Int) (l2 : List S31) (l3 : List S36) (b0 : Int) (m1 : List Int) (m2 : List S31) (m3 : List S36) : Option Bool := if apB a0 l1 l2 l3 = true ∧ apB b0 m1 m2 m3 = true then some true else none
theorem musterlaw31_TableApart.calls (a0 : Int) (A1 : Option Addr) (c1 : Nat) (l1 : List Int) (A2 : Option Addr) (c2 : Nat) (l2 : List S31) (A3 : Option Addr) (c3 : Nat) (l3 : List S36)
    (b0 : Int) (B1 : Option Addr) (d1 : Nat) (m1 : List Int) (B2 : Option Addr) (d2 : Nat) (m2 : List S31) (B3 : Option Addr) (d3 : Nat) (m3 : List S36) (r : Bool) (w : World)
    (hr1 : Kd.C (Kd.int .i64) w A1 l1.length l1) (hc1 : l1.length ≤ c1) (hr2 : Kd.C k31 w A2 l2.length l2) (hc2 : l2.length ≤ c2) (hr3 : Kd.C k36 w A3 l3.length l3) (hc3 : l3.length ≤ c3)
    (gr1 : Kd.C (Kd.int .i64) w B1 m1.length m1) (gc1 : m1.length ≤ d1) (gr2 : Kd.C k31 w B2 m2.length m2) (gc2 : m2.length ≤ d2) (gr3 : Kd.C k36 w B3 m3.length m3) (gc3 : m3.length ≤ d3)
    (tab_ : Tabs w) (h : musterlaw31_TableApart.f a0 l1 l2 l3 b0 m1 m2 m3 = some r) :
    Calls Tryd.prog 3 #[.agg #[.int .i64 a0, .slice A1 l1.length c1, .slice A2 l2.length c2, .slice A3 l3.length c3], .agg #[.int .i64 b0, .slice B1 m1.length d1, .slice B2 m2.length d2, .slice B3 m3.length d3]] w fun e w' => e = .returned (.bool r) ∧ Below w.heap.size w w' := by
  unfold musterlaw31_TableApart.f at h
  by_cases hc : apB a0 l1 l2 l3 = true ∧ apB b0 m1 m2 m3 = true
  · rw [if_pos hc] at h
    cases h
    obtain ⟨ha, hb⟩ := hc
    obtain ⟨e, o1, o2, o3, z1, z2, z3⟩ := (apB_iff a0 l1 l2 l3).1 ha
    obtain ⟨f, p1, p2, p3, y1, y2, y3⟩ := (apB_iff b0 m1 m2 m3).1 hb
    obtain ⟨K1, q1⟩ := answer_ev a0 l1 l2 l3 e o1 o2 o3 z1 z2 z3
    obtain ⟨K2, q2⟩ := answer_ev b0 m1 m2 m3 f p1 p2 p3 y1 y2 y3
    exact apart_walk a0 A1 c1 l1 A2 c2 l2 A3 c3 l3 b0 B1 d1 m1 B2 d2 m2 B3 d3 m3 w tab_ hr1 hc1 hr2 hc2 hr3 hc3 gr1 gc1 gr2 gc2 gr3 gc3 _ _ (K1 + K2) (q1 _ (by omega)) (q2 _ (by omega)) (fun s1 s2 => ans_same a0 b0 l1 m1 l2 m2 l3 m3 s1 o3 s2 p3)
  · rw [if_neg hc] at h
    cases h
end Go.Proofs.YthlbdbaanlehhaaDoor.Pr
