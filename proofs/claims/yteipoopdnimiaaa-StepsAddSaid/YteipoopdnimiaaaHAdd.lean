/-
  steps.Add, proved by hand: what it computes.
-/
import Derived.Test.YteipoopdnimiaaaPr6
import Derived.Test.YteipoopdnimiaaaHSplit
import Derived.Test.YteipoopdnimiaaaHCompact
namespace Go.Proofs.Yteipoopdnimiaaa.Pr
open Go.RowKit Go.Proofs.YteipoopdnimiaaaW.PrintWords Go.Proofs.YteipoopdnimiaaaW.PrintLast Go.Proofs.YteipoopdnimiaaaW.PrintMore Go.Proofs.YteipoopdnimiaaaG
set_option linter.unusedVariables false
set_option linter.unusedSimpArgs false
/-- n more between two times. -/
def addCut (a b n : Int) (c : S34) : S34 := if a ≤ c.f0 ∧ c.f0 < b then ⟨c.f0, wrap64 (c.f1 + n)⟩ else c
def isBad (c : S34) : Bool := decide (c.f1 < 0) || decide (1073741824 < c.f1)
def addRows (l : List S34) (a b n : Int) : List S34 := (splitAt (splitAt l a) b).map (addCut a b n)
def addPure (l : List S34) (a b n : Int) : List S34 × Int :=
  if (addRows l a b n).any isBad = true then ([], 120)
  else if 4096 < (compact (addRows l a b n)).length then ([], 5) else (compact (addRows l a b n), 0)
def addFine (l : List S34) (a b : Int) : Bool := rising l && decide (0 < upTo l a) && rising (splitAt l a) && decide (0 < upTo (splitAt l a) b) && decide (l.length ≤ 4096)
def steps_Add.f (k : Nat) (l0 : List S34) (a1 a2 a3 : Int) : Option (List S34 × Int) :=
  (steps_window.f k l0 a1 a2).bind fun t => if t = false ∨ a3 < -1073741824 ∨ 1073741824 < a3 then some ([], 2) else if addFine l0 a1 a2 = true then some (addPure l0 a1 a2 a3) else none
theorem steps_Add.mono : ∀ a0 a1 a2 a3 k, LeO (steps_Add.f k a0 a1 a2 a3) (steps_Add.f (k + 1) a0 a1 a2 a3) := by
  intro a0 a1 a2 a3 k
  unfold steps_Add.f
  exact LeO.bind (steps_window.mono _ _ _ _) (fun _ => LeO.refl _)
theorem splitAt_len (l : List S34) (t : Int) : l.length ≤ (splitAt l t).length ∧ (splitAt l t).length ≤ l.length + 1 := by
  unfold splitAt
  simp only
  split
  · omega
  · simp
    omega

/-- The rows behind j rounds. -/
def midRows (f : S34 → S34) (L : List S34) (j : Nat) : List S34 := (L.take j).map f ++ L.drop j
theorem mid_length (f : S34 → S34) (L : List S34) (j : Nat) (h : j ≤ L.length) : (midRows f L j).length = L.length := by
  unfold midRows
  simp
  omega
theorem mid_get (f : S34 → S34) (L : List S34) (j : Nat) (h : j < L.length) : (midRows f L j).getD j z34 = L.getD j z34 := by
  unfold midRows
  have : ((L.take j).map f).length = j := by simp; omega
  rw [List.getD_eq_getElem?_getD, List.getElem?_append_right (by omega), this, Nat.sub_self, List.getElem?_drop, List.getD_eq_getElem?_getD, Nat.add_zero]
theorem mid_succ (f : S34 → S34) (L : List S34) (j : Nat) (h : j < L.length) : midRows f L (j + 1) = (midRows f L j).set j (f (L.getD j z34)) := by
  unfold midRows
  have hl : ((L.take j).map f).length = j := by simp; omega
  have hg : L.getD j z34 = L[j] := by rw [List.getD_eq_getElem?_getD, List.getElem?_eq_getElem h]; rfl
  rw [List.set_append_right (h := by omega), hl, Nat.sub_self, List.drop_eq_getElem_cons h, List.set_cons_zero, List.take_succ_eq_append_getElem h, hg, List.map_append, List.append_assoc]
  rfl
theorem mid_all (f : S34 → S34) (L : List S34) : midRows f L L.length = L.map f := by simp [midRows]
theorem mid_zero (f : S34 → S34) (L : List S34) : midRows f L 0 = L := by simp [midRows]
theorem mid_stay (f : S34 → S34) (L : List S34) (j : Nat) (h : j < L.length) (e : f (L.getD j z34) = L.getD j z34) : midRows f L (j + 1) = midRows f L j := by
  rw [mid_succ f L j h, e]
  apply List.ext_getElem?
  intro i
  rw [List.getElem?_set]
  split
  · rename_i hij
    subst hij
    have h2 := mid_get f L j h
    have hl := mid_length f L j (by omega)
    rw [if_pos (by omega)]
    rw [List.getD_eq_getElem?_getD] at h2
    rw [List.getElem?_eq_getElem (show j < (midRows f L j).length by omega)] at h2 ⊢
    simp at h2
    rw [h2]
    rfl
  · rfl
theorem any_at {L : List S34} {f : S34 → S34} {j : Nat} (h : j < L.length) (hb : isBad (f (L.getD j z34)) = true) : (L.map f).any isBad = true := by
  rw [List.any_eq_true]
  refine ⟨f (L.getD j z34), List.mem_map.2 ⟨_, ?_, rfl⟩, hb⟩
  rw [List.getD_eq_getElem?_getD, List.getElem?_eq_getElem h]
  exact List.getElem_mem h
theorem any_none {L : List S34} {f : S34 → S34} (h : ∀ j, j < L.length → isBad (f (L.getD j z34)) = false) : (L.map f).any isBad = false := by
  rw [List.any_eq_false]
  intro x hx
  obtain ⟨y, hy, rfl⟩ := List.mem_map.1 hx
  obtain ⟨j, hj, rfl⟩ := List.mem_iff_getElem.1 hy
  have := h j hj
  rw [List.getD_eq_getElem?_getD, List.getElem?_eq_getElem hj] at this
  simpa using this
theorem addCut_yes {a b n : Int} {c : S34} (h1 : a ≤ c.f0) (h2 : c.f0 < b) : addCut a b n c = ⟨c.f0, wrap64 (c.f1 + n)⟩ := by unfold addCut; rw [if_pos ⟨h1, h2⟩]
theorem addCut_no {a b n : Int} {c : S34} (h : ¬ (a ≤ c.f0 ∧ c.f0 < b)) : addCut a b n c = c := by unfold addCut; rw [if_neg h]
theorem bad_of {c : S34} (h : c.f1 < 0 ∨ 1073741824 < c.f1) : isBad c = true := by unfold isBad; simpa using h
theorem good_of {c : S34} (h1 : ¬ c.f1 < 0) (h2 : ¬ 1073741824 < c.f1) : isBad c = false := by unfold isBad; simp; omega
theorem row_set1 {w : World} {g : Nat} {m : List S34} {sp : List Value} (h : w.heap[g]? = some (.cells (cells34 m ++ sp).toArray 34 (0, 0))) (a : Nat) (x : S34) (y : Int) (ha : a < m.length) (hx : m.getD a z34 = x) :
    (w.setCell ⟨g, a * 2 + 1, none⟩ (.int .i64 y)).heap[g]? = some (.cells (cells34 (m.set a ⟨x.f0, y⟩) ++ sp).toArray 34 (0, 0)) := by
  rw [heap_setCell_same _ g (a * 2 + 1) _ 34 _ h]
  have hl := cells34_length m
  congr 2
  rw [← cells34_set m a ⟨x.f0, y⟩ ha]
  simp only [List.setIfInBounds_toArray]
  rw [List.set_append_left _ _ (by omega)]
  congr 3
  apply List.ext_getElem?
  intro i
  by_cases hi : a * 2 = i
  · subst hi
    have := cells34_get m a 0 x (by rw [← hx, List.getD_eq_getElem?_getD, List.getElem?_eq_getElem ha]; rfl) (by omega)
    rw [Nat.add_zero] at this
    rw [this, List.getElem?_set_self (by omega)]
    rfl
  · rw [List.getElem?_set_ne hi]
set_option maxRecDepth 100000 in
set_option maxHeartbeats 2000000 in
theorem add_main (A0 : Option Addr) (c0 : Nat) (l0 : List (S34)) (a b n : Int) (w : World) (hr0 : Kd.C k34 w A0 l0.length l0) (hc0 : l0.length ≤ c0)
    (hwin : ∀ W, Kd.C k34 W A0 l0.length l0 → Calls Try.prog 24 #[.slice A0 l0.length c0, .int .i64 a, .int .i64 b] W fun e w' => e = .returned (.bool true) ∧ Below W.heap.size W w')
    (hn1 : ¬ n < -1073741824) (hn2 : ¬ 1073741824 < n) (hf : addFine l0 a b = true) :
    Calls Try.prog 17 #[.slice A0 l0.length c0, .int .i64 a, .int .i64 b, .int .i64 n] w fun e w' => ∃ v0_ : Value, e = .returned (.tuple #[v0_, .int .i64 (addPure l0 a b n).2]) ∧ Kd.R k34 34 w' w.heap.size (fun _ => True) v0_ (addPure l0 a b n).1 ∧ Below w.heap.size w w' := by
  unfold addFine at hf
  simp only [Bool.and_eq_true, decide_eq_true_eq] at hf
  obtain ⟨⟨⟨⟨f1, f2⟩, f3⟩, f4⟩, f5⟩ := hf
  have hl1 := splitAt_len l0 a
  have hl2 := splitAt_len (splitAt l0 a) b
  have HR0 := hd hr0
  have HWIN := hd hwin
  clear hr0 hwin
  have F := hd (And.intro f1 (And.intro f2 (And.intro f3 f4)))
  clear f1 f2 f3 f4
  have hd1 : decide (n < -1073741824) = false := by simpa using hn1
  have hd2 : decide (1073741824 < n) = false := by simpa using hn2
  obtain ⟨L, hL⟩ : ∃ L, splitAt (splitAt l0 a) b = L := ⟨_, rfl⟩
  have HL := hd hL
  have hLl : L.length ≤ 4098 := by rw [← hL]; omega
  clear hL hl1 hl2
  go_enter Try.func17, Try.ntmps17
  go_wp2_with fail
  refine (HWIN.out _ HR0.out).mono ?_
  rintro e w1 ⟨rfl, hb1⟩
  have HB1 := hd hb1
  clear hb1
  go_wp2_with fail
  refine (clone_any A0 c0 l0 _ (Kd.C_below HR0.out HB1.out) (by omega)).mono ?_
  rintro e w2 ⟨v2, rfl, ho2, hb2⟩
  have HB2 : Hd (Below w.heap.size w w2) := hd (below_then HB1.out HB1.out.size hb2)
  have HO2 : Hd (w2.ownsRow w.heap.size 34 2 v2 l0.length (cells34 l0)) := hd (own_weaken ho2 HB1.out.size)
  clear ho2 hb2
  go_wp2_with fail
  refine (split_any w.heap.size l0.length v2 l0 a w2 HO2.out F.out.1 F.out.2.1 HB2.out.size (by omega)).mono ?_
  rintro e w3 ⟨v3, rfl, ho3, hg3⟩
  have HB3 : Hd (Below w.heap.size w w3) := hd (HB2.out.grown hg3 HB2.out.size (own_base HO2.out))
  have HO3 := hd ho3
  clear ho3 hg3
  go_wp2_with fail
  refine (split_any w.heap.size _ v3 (splitAt l0 a) b w3 HO3.out F.out.2.2.1 F.out.2.2.2 HB3.out.size (by have := splitAt_len l0 a; omega)).mono ?_
  rintro e w4 ⟨v4, rfl, ho4, hg4⟩
  have HB4 : Hd (Below w.heap.size w w4) := hd (HB3.out.grown hg4 HB3.out.size (own_base HO3.out))
  rw [HL.out] at ho4
  have hpos : 0 < L.length := by
    have h1 := upTo_le (splitAt l0 a) b
    have h2 := splitAt_len (splitAt l0 a) b
    rw [HL.out] at h2
    have h3 := F.out.2.2.2
    omega
  obtain ⟨g, cap, cur, rfl, hbg, hg, hnc, hcm, hcl, htk⟩ := own_open ho4 hpos
  have hcur : cur = cells34 L ++ cur.drop (L.length * 2) := by rw [← htk, List.take_append_drop]
  rw [hcur] at hg
  generalize hsp : cur.drop (L.length * 2) = sp at *
  have HSP : Hd (sp.length = (cap - L.length) * 2) := hd (by rw [← hsp, List.length_drop, hcl]; omega)
  have HG := hd hg
  have HCM := hd hcm
  clear hg hcl htk hcur hsp ho4 hg4 hcm
  go_wp2
  go_loopw [33] (fun k wr => ∃ j : Nat, j ≤ L.length ∧ k = .int .i64 (j : Int) ∧ Hd (wr.heap[g]? = some (.cells (cells34 (midRows (addCut a b n) L j) ++ sp).toArray 34 (0, 0))) ∧ Hd (w4.grownBy wr (some g)) ∧ Hd (∀ t, t < j → isBad (addCut a b n (L.getD t z34)) = false)) (fun k _ => L.length - (intOf k).toNat)
  case atStart => exact ⟨0, by omega, rfl, hd (by rw [mid_zero]; exact HG.out), hd (grownBy_refl _ _), hd (fun t ht => by omega)⟩
  case round =>
    obtain ⟨j, hj, rfl, HW, HR, HK⟩ := hrel
    by_cases hlt : j < L.length
    · have hlt' : (j : Int) < (L.length : Int) := by omega
      have HML : Hd ((midRows (addCut a b n) L j).length = L.length) := hd (mid_length _ _ _ hj)
      obtain ⟨hc0', hc1'⟩ := row_get HW.out j (by rw [HML.out]; omega)
      rw [mid_get _ _ _ hlt] at hc0' hc1'
      have hf1 : wr.frozen? ⟨g, j * 2 + 1, none⟩ = false := frozen_block HW.out
      generalize hx : L.getD j z34 = x at *
      have HX := hd hx
      clear hx
      have HBAD : Hd (isBad (addCut a b n x) = true → addPure l0 a b n = ([], 120)) := hd (fun h => by unfold addPure addRows; rw [HL.out, if_pos (any_at hlt (by rw [HX.out]; exact h))])
      have HNEXT : Hd (isBad (addCut a b n x) = false → ∀ t, t < j + 1 → isBad (addCut a b n (L.getD t z34)) = false) := hd (fun h t ht => by
        rcases Nat.lt_or_eq_of_le (Nat.le_of_lt_succ ht) with h2 | rfl
        · exact HK.out t h2
        · rw [HX.out]; exact h)
      have HBW : Hd (Below w.heap.size w wr) := hd (HB4.out.grown HR.out HB4.out.size (fun k hk => by cases hk; exact hbg))
      have HST : Hd (∀ u, Below w.heap.size w (wr.setCell ⟨g, j * 2 + 1, none⟩ u) ∧ w4.grownBy (wr.setCell ⟨g, j * 2 + 1, none⟩ u) (some g)) := hd (fun u => ⟨HB4.out.grown (grownBy_set HR.out _ rfl u) HB4.out.size (fun k hk => by cases hk; exact hbg), grownBy_set HR.out _ rfl u⟩)
      by_cases h1 : a ≤ x.f0 ∧ x.f0 < b
      · obtain ⟨h1, h2⟩ := h1
        have HY : Hd (addCut a b n x = ⟨x.f0, wrap64 (x.f1 + n)⟩) := hd (addCut_yes h1 h2)
        have hb1 : decide (a ≤ x.f0) = true := by simpa using h1
        have hb2 : decide (x.f0 < b) = true := by simpa using h2
        have HROW : Hd ((wr.setCell ⟨g, j * 2 + 1, none⟩ (.int .i64 (wrap64 (x.f1 + n)))).heap[g]? = some (.cells (cells34 (midRows (addCut a b n) L (j + 1)) ++ sp).toArray 34 (0, 0))) := hd (by
          rw [mid_succ _ _ _ hlt, HX.out, HY.out]
          exact row_set1 HW.out j x (wrap64 (x.f1 + n)) (by rw [HML.out]; omega) (by rw [mid_get _ _ _ hlt, HX.out]))
        clear h1 h2
        by_cases h3 : wrap64 (x.f1 + n) < 0
        · have hb3 : decide (wrap64 (x.f1 + n) < 0) = true := by simpa using h3
          have HZ := hd h3
          clear h3
          go_wp2
          go_ret2
          rw [HBAD.out (bad_of (.inl (by rw [HY.out]; exact HZ.out)))]
          exact ⟨_, rfl, Kd.R_nil _ _ _ _ _, (HST.out _).1⟩
        · have hb3 : decide (wrap64 (x.f1 + n) < 0) = false := by simpa using h3
          have HZ := hd h3
          clear h3
          by_cases h4 : 1073741824 < wrap64 (x.f1 + n)
          · have hb4 : decide (1073741824 < wrap64 (x.f1 + n)) = true := by simpa using h4
            have HZ4 := hd h4
            clear h4
            go_wp2
            go_ret2
            rw [HBAD.out (bad_of (.inr (by rw [HY.out]; exact HZ4.out)))]
            exact ⟨_, rfl, Kd.R_nil _ _ _ _ _, (HST.out _).1⟩
          · have hb4 : decide (1073741824 < wrap64 (x.f1 + n)) = false := by simpa using h4
            have HZ4 := hd h4
            clear h4
            go_wp2
            go_roundw
            case rel => exact ⟨j + 1, by omega, by go_num, HROW, hd (HST.out _).2, hd (HNEXT.out (by rw [HY.out]; exact good_of HZ.out HZ4.out))⟩
            case measure => simp [intOf]; omega
      · have HY : Hd (addCut a b n x = x) := hd (addCut_no h1)
        have HROW : Hd (midRows (addCut a b n) L (j + 1) = midRows (addCut a b n) L j) := hd (mid_stay _ _ _ hlt (by rw [HX.out, HY.out]))
        have hb12 : decide (a ≤ x.f0) = false ∨ (decide (a ≤ x.f0) = true ∧ decide (x.f0 < b) = false) := by
          by_cases h2 : a ≤ x.f0
          · exact .inr ⟨by simpa using h2, by simp; omega⟩
          · exact .inl (by simpa using h2)
        clear h1
        have h3c : (decide (x.f1 < 0) = true ∧ isBad x = true) ∨ (decide (x.f1 < 0) = false ∧ decide (1073741824 < x.f1) = true ∧ isBad x = true) ∨ (decide (x.f1 < 0) = false ∧ decide (1073741824 < x.f1) = false ∧ isBad x = false) := by
          unfold isBad
          by_cases h3 : x.f1 < 0 <;> by_cases h4 : 1073741824 < x.f1 <;> simp [h3, h4]
        rcases hb12 with hb1 | ⟨hb1, hb2⟩
        all_goals
          rcases h3c with ⟨hb3, hbad⟩ | ⟨hb3, hb4, hbad⟩ | ⟨hb3, hb4, hbad⟩
          · have HZ := hd hbad
            clear hbad
            go_wp2
            go_ret2
            rw [HBAD.out (by rw [HY.out]; exact HZ.out)]
            exact ⟨_, rfl, Kd.R_nil _ _ _ _ _, HBW.out⟩
          · have HZ := hd hbad
            clear hbad
            go_wp2
            go_ret2
            rw [HBAD.out (by rw [HY.out]; exact HZ.out)]
            exact ⟨_, rfl, Kd.R_nil _ _ _ _ _, HBW.out⟩
          · have HZ := hd hbad
            clear hbad
            go_wp2
            go_roundw
            case rel => exact ⟨j + 1, by omega, by go_num, hd (by rw [HROW.out]; exact HW.out), HR, hd (HNEXT.out (by rw [HY.out]; exact HZ.out))⟩
            case measure => simp [intOf]; omega
    · obtain rfl : j = L.length := by omega
      have HOK : Hd ((addRows l0 a b n).any isBad = false) := hd (by unfold addRows; rw [HL.out]; exact any_none HK.out)
      have HOW : Hd (wr.ownsRow w.heap.size 34 2 (.slice (some ⟨g, 0, none⟩) L.length cap) L.length (cells34 (addRows l0 a b n))) := hd (by
        refine own_shut hbg HW.out hnc HCM.out (by rw [List.length_append, cells34_length, mid_length _ _ _ (Nat.le_refl _), HSP.out]; omega) ?_
        rw [List.take_append_of_le_length (by rw [cells34_length, mid_length _ _ _ (Nat.le_refl _)]; exact Nat.le_refl _), List.take_of_length_le (by rw [cells34_length, mid_length _ _ _ (Nat.le_refl _)]; exact Nat.le_refl _), mid_all]
        unfold addRows
        rw [HL.out])
      have HBW : Hd (Below w.heap.size w wr) := hd (HB4.out.grown HR.out HB4.out.size (fun k hk => by cases hk; exact hbg))
      go_wp2_with fail
      refine (compact_any w.heap.size L.length _ _ wr HOW.out).mono ?_
      rintro e w5 ⟨v5, rfl, ho5, hg5⟩
      have HB5 : Hd (Below w.heap.size w w5) := hd (HBW.out.grown hg5 HBW.out.size (own_base HOW.out))
      obtain ⟨A5, c5, rfl, hc5, _⟩ := C34_own ho5
      have HO5 := hd ho5
      clear ho5 hg5
      by_cases h6 : 4096 < (compact (addRows l0 a b n)).length
      · have hb6 : decide ((4096 : Int) < ((compact (addRows l0 a b n)).length : Int)) = true := by simp; omega
        have hb6' : decide (4096 < (compact (addRows l0 a b n)).length) = true := by simpa using h6
        have HA := hd (show addPure l0 a b n = ([], 5) by unfold addPure; rw [if_neg (by rw [HOK.out]; simp), if_pos h6])
        clear h6
        go_wp2
        go_ret2
        rw [HA.out]
        exact ⟨_, rfl, Kd.R_nil _ _ _ _ _, HB5.out⟩
      · have hb6 : decide ((4096 : Int) < ((compact (addRows l0 a b n)).length : Int)) = false := by simp; omega
        have hb6' : decide (4096 < (compact (addRows l0 a b n)).length) = false := by simpa using h6
        have HA := hd (show addPure l0 a b n = (compact (addRows l0 a b n), 0) by unfold addPure; rw [if_neg (by rw [HOK.out]; simp), if_neg h6])
        clear h6
        go_wp2
        go_ret2
        rw [HA.out]
        exact ⟨_, rfl, R34_of HO5.out, HB5.out⟩
set_option maxHeartbeats 1000000 in
theorem add_no (A0 : Option Addr) (c0 : Nat) (l0 : List (S34)) (a b n : Int) (w : World) (t : Bool) (hr0 : Kd.C k34 w A0 l0.length l0)
    (hwin : ∀ W, Kd.C k34 W A0 l0.length l0 → Calls Try.prog 24 #[.slice A0 l0.length c0, .int .i64 a, .int .i64 b] W fun e w' => e = .returned (.bool t) ∧ Below W.heap.size W w')
    (hno : t = false ∨ n < -1073741824 ∨ 1073741824 < n) :
    Calls Try.prog 17 #[.slice A0 l0.length c0, .int .i64 a, .int .i64 b, .int .i64 n] w fun e w' => ∃ v0_ : Value, e = .returned (.tuple #[v0_, .int .i64 2]) ∧ Kd.R k34 34 w' w.heap.size (fun _ => True) v0_ [] ∧ Below w.heap.size w w' := by
  have HR0 := hd hr0
  have HWIN := hd hwin
  clear hr0 hwin
  have hc : t = false ∨ (t = true ∧ decide (n < -1073741824) = true) ∨ (t = true ∧ decide (n < -1073741824) = false ∧ decide (1073741824 < n) = true) := by
    cases t
    · exact .inl rfl
    · by_cases h1 : n < -1073741824
      · exact .inr (.inl ⟨rfl, by simpa using h1⟩)
      · exact .inr (.inr ⟨rfl, by simpa using h1, by
          rcases hno with h | h | h
          · cases h
          · exact absurd h h1
          · simpa using h⟩)
  clear hno
  rcases hc with rfl | ⟨rfl, h1⟩ | ⟨rfl, h1, h2⟩
  all_goals
    go_enter Try.func17, Try.ntmps17
    go_wp2_with fail
    refine (HWIN.out _ HR0.out).mono ?_
    rintro e w1 ⟨rfl, hb1⟩
    have HB1 := hd hb1
    clear hb1
    go_wp2
    go_ret2
    exact ⟨_, rfl, Kd.R_nil _ _ _ _ _, HB1.out⟩
theorem steps_Add.calls (k : Nat) (A0 : Option Addr) (c0 : Nat) (l0 : List (S34)) (a1 : Int) (a2 : Int) (a3 : Int) (r1 : List (S34)) (r2 : Int) (w : World) (hr0 : Kd.C k34 w A0 l0.length l0) (hc0 : l0.length ≤ c0) (h : steps_Add.f k l0 a1 a2 a3 = some (r1, r2)) :
    Calls Try.prog 17 #[.slice A0 l0.length c0, .int .i64 a1, .int .i64 a2, .int .i64 a3] w fun e w' => ∃ v0_ : Value, e = .returned (.tuple #[v0_, .int .i64 r2]) ∧ Kd.R k34 34 w' w.heap.size (fun _ => True) v0_ r1 ∧ Below w.heap.size w w' := by
  unfold steps_Add.f at h
  cases hw : steps_window.f k l0 a1 a2 with
  | none => rw [hw] at h; cases h
  | some t =>
    rw [hw] at h
    simp only [Option.bind_some] at h
    have hwin := fun W hW => steps_window.calls k A0 c0 l0 a1 a2 t W hW hc0 hw
    by_cases hc : t = false ∨ a3 < -1073741824 ∨ 1073741824 < a3
    · rw [if_pos hc] at h
      cases h
      exact add_no A0 c0 l0 a1 a2 a3 w t hr0 hwin hc
    · rw [if_neg hc] at h
      obtain ⟨c1, c2⟩ := not_or.1 hc
      obtain ⟨c2, c3⟩ := not_or.1 c2
      obtain rfl : t = true := by simpa using c1
      by_cases hf : addFine l0 a1 a2 = true
      · rw [if_pos hf] at h
        have h1 : addPure l0 a1 a2 a3 = (r1, r2) := by injection h
        have := add_main A0 c0 l0 a1 a2 a3 w hr0 hc0 hwin c2 c3 hf
        rw [h1] at this
        exact this
      · rw [if_neg hf] at h
        cases h
end Go.Proofs.Yteipoopdnimiaaa.Pr
