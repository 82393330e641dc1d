/-
  slices.CompactFunc over cuts, with 'the same amount': on a row of the call's own.
-/
import Derived.Test.YteipoopdnimiaaaHCut
import Derived.StillTailTactics
namespace Go.Proofs.Yteipoopdnimiaaa.Pr
open Go.RowKit Go.Proofs.YteipoopdnimiaaaW.PrintWords Go.Proofs.YteipoopdnimiaaaW.PrintLast Go.Proofs.YteipoopdnimiaaaW.PrintMore Go.Proofs.YteipoopdnimiaaaG
set_option linter.unusedVariables false
set_option linter.unusedSimpArgs false
def dedup : S34 → List S34 → List S34
  | _, [] => []
  | p, b :: l => if b.f1 = p.f1 then dedup b l else b :: dedup b l
/-- Of neighbours of one amount the first. -/
def compact : List S34 → List S34
  | [] => []
  | a :: l => a :: dedup a l
theorem dedup_snoc (b : S34) : ∀ (l : List S34) (p a : S34), dedup p (l ++ [a] ++ [b]) = dedup p (l ++ [a]) ++ if b.f1 = a.f1 then [] else [b]
  | [], p, a => by
    simp only [List.nil_append, List.cons_append, dedup]
    split <;> split <;> rfl
  | c :: l, p, a => by
    have ih := dedup_snoc b l c a
    simp only [List.cons_append, dedup] at ih ⊢
    rw [ih]
    split <;> rfl
theorem compact_snoc (l : List S34) (a b : S34) : compact (l ++ [a] ++ [b]) = compact (l ++ [a]) ++ if b.f1 = a.f1 then [] else [b] := by
  cases l with
  | nil => simp only [List.nil_append, List.cons_append, compact, dedup]
  | cons c l =>
    simp only [List.cons_append, compact]
    have := dedup_snoc b l c a
    simp only [List.append_assoc, List.cons_append, List.nil_append] at this ⊢
    rw [this]
theorem compact_take (l : List S34) (j : Nat) (h0 : 0 < j) (h : j < l.length) : compact (l.take (j + 1)) = compact (l.take j) ++ if (l.getD j z34).f1 = (l.getD (j - 1) z34).f1 then [] else [l.getD j z34] := by
  obtain ⟨k, rfl⟩ : ∃ k, j = k + 1 := ⟨j - 1, by omega⟩
  have e1 : l.take (k + 1 + 1) = l.take k ++ [l.getD k z34] ++ [l.getD (k + 1) z34] := by
    rw [List.take_succ_eq_append_getElem h, List.take_succ_eq_append_getElem (by omega)]
    simp [List.getD_eq_getElem?_getD, List.getElem?_eq_getElem h, List.getElem?_eq_getElem (show k < l.length by omega)]
  have e2 : l.take (k + 1) = l.take k ++ [l.getD k z34] := by
    rw [List.take_succ_eq_append_getElem (by omega)]
    simp [List.getD_eq_getElem?_getD, List.getElem?_eq_getElem (show k < l.length by omega)]
  rw [e1, e2, compact_snoc]
  rfl
set_option maxHeartbeats 400000 in
theorem same_any (a b : S34) (w : World) : Calls Try.prog 31 #[.agg #[.int .i64 a.f0, .int .i64 a.f1], .agg #[.int .i64 b.f0, .int .i64 b.f1]] w fun e w' => e = .returned (.bool (a.f1 == b.f1)) ∧ Below w.heap.size w w' := by
  go_enter Try.func31, Try.ntmps31
  go_wp2
  go_ret
  exact ⟨rfl, below_alloc (below_alloc (Below.refl _ _) _) _⟩
/-- The elements of a row of cuts, as loads tell them. -/
theorem row_get {w : World} {g : Nat} {l : List S34} {sp : List Value} (h : w.heap[g]? = some (.cells (cells34 l ++ sp).toArray 34 (0, 0))) (j : Nat) (hj : j < l.length) :
    w.cell? ⟨g, j * 2, none⟩ = some (.int .i64 (l.getD j z34).f0) ∧ w.cell? ⟨g, j * 2 + 1, none⟩ = some (.int .i64 (l.getD j z34).f1) := by
  have hp : l[j]? = some (l.getD j z34) := by simp [List.getD_eq_getElem?_getD, List.getElem?_eq_getElem hj]
  have hl := cells34_length l
  refine ⟨?_, ?_⟩
  · rw [cell_block h, List.getElem?_append_left (by omega)]
    exact cells34_get l j 0 _ hp (by omega)
  · rw [cell_block h, List.getElem?_append_left (by omega)]
    exact cells34_get l j 1 _ hp (by omega)
theorem take_snoc_getD (l : List S34) (j : Nat) (h : j < l.length) : l.take (j + 1) = l.take j ++ [l.getD j z34] := by
  rw [List.take_succ_eq_append_getElem h]
  simp [List.getD_eq_getElem?_getD, List.getElem?_eq_getElem h]
theorem cells34_set (m : List S34) (a : Nat) (y : S34) (h : a < m.length) : ((cells34 m).set (a * 2) (.int .i64 y.f0)).set (a * 2 + 1) (.int .i64 y.f1) = cells34 (m.set a y) := by
  induction m generalizing a with
  | nil => simp at h
  | cons c m ih =>
    cases a with
    | zero => rfl
    | succ a =>
      rw [List.set_cons_succ, cells34_cons, cells34_cons, ← ih a (by simpa using h), show (a + 1) * 2 = a * 2 + 1 + 1 by omega]
      rfl
theorem row_set {w : World} {g : Nat} {m : List S34} {sp : List Value} (h : w.heap[g]? = some (.cells (cells34 m ++ sp).toArray 34 (0, 0))) (a : Nat) (y : S34) (ha : a < m.length) :
    ((w.setCell ⟨g, a * 2, none⟩ (.int .i64 y.f0)).setCell ⟨g, a * 2 + 1, none⟩ (.int .i64 y.f1)).heap[g]? = some (.cells (cells34 (m.set a y) ++ sp).toArray 34 (0, 0)) := by
  rw [heap_setCell_same _ g (a * 2 + 1) _ 34 _ (heap_setCell_same w g (a * 2) _ 34 _ h)]
  have hl := cells34_length m
  congr 2
  rw [← cells34_set m a y ha]
  simp only [List.setIfInBounds_toArray]
  rw [List.set_append_left _ _ (by omega), List.set_append_left _ _ (by rw [List.length_set]; omega)]
theorem grownBy_set {w w1 : World} {g : Nat} (h : w.grownBy w1 (some g)) (p : Addr) (hp : p.block = g) (u : Value) : w.grownBy (w1.setCell p u) (some g) :=
  ⟨h.os, h.tape, h.output, by simpa using h.size, fun k hk hr => (Below.heap_setCell w1 p u k (by rintro rfl; exact hr (by rw [hp]))).trans (h.block k hk hr)⟩
set_option maxRecDepth 100000 in
set_option maxHeartbeats 1000000 in
theorem compact_walk (g n c : Nat) (l : List S34) (sp : List Value) (w : World) (hn : l.length = n) (h2 : 2 ≤ n) (hnc : n ≤ c) (hc : c ≤ 9223372036854775807) (hg : w.heap[g]? = some (.cells (cells34 l ++ sp).toArray 34 (0, 0))) (hsp : sp.length = (c - n) * 2) :
    Calls Try.prog 30 #[.slice (some ⟨g, 0, none⟩) n c, .func (.func 31) #[] #[]] w fun e w' => ∃ m cur, e = .returned (.slice (some ⟨g, 0, none⟩) m c) ∧ m ≤ n ∧ m = (compact l).length ∧
      w'.heap[g]? = some (.cells (List.toArray cur) 34 (0, 0)) ∧ cur.length = c * 2 ∧ cur.take (m * 2) = cells34 (compact l) ∧ w.grownBy w' (some g) := by
  have hz : decide ((n : Int) < 2) = false := by simp; omega
  have hz' : decide (n < 2) = false := by simp; omega
  have HG := hd hg
  have HN := hd hn
  have HS := hd hsp
  clear hg hn hsp
  go_enter Try.func30, Try.ntmps30
  go_wp2
  go_loopw [5] (fun i wr => ∃ j : Nat, j + 1 ≤ n ∧ i = .int .i64 ((j : Int) + 1) ∧ Hd (compact (l.take (j + 1)) = l.take (j + 1)) ∧ Hd (Below w.heap.size w wr)) (fun i _ => n - (intOf i).toNat)
  case atStart => exact ⟨0, by omega, rfl, hd (by cases l <;> simp [compact, dedup]), hd (Below.refl _ _)⟩
  case round =>
    obtain ⟨j, hj, rfl, HK, HB⟩ := hrel
    have hgr : Hd (wr.heap[g]? = some (.cells (cells34 l ++ sp).toArray 34 (0, 0))) := hd (by rw [HB.out.block g (blk_lt HG.out)]; exact HG.out)
    by_cases hlt : j + 1 < n
    · have hlt' : (j : Int) + 1 < (n : Int) := by omega
      obtain ⟨ha0, ha1⟩ := row_get hgr.out (j + 1) (by rw [HN.out]; omega)
      obtain ⟨hb0, hb1⟩ := row_get hgr.out j (by rw [HN.out]; omega)
      generalize hxa : l.getD (j + 1) z34 = xa at *
      generalize hxb : l.getD j z34 = xb at *
      have HXA := hd hxa
      have HXB := hd hxb
      clear hxa hxb
      go_wp2_with fail
      have hw1 : IntKind.i64.wrap ((j : Int) + 1 - 1) = (j : Int) := by rw [IntKind.wrap_i64]; omega
      have hw6 : IntKind.i64.wrap (j : Int) = (j : Int) := by rw [IntKind.wrap_i64]; omega
      have hw2 : (j : Int) < (n : Int) := by omega
      have hw3 : (0 : Int) ≤ (j : Int) := by omega
      have hw4 : (0 : Int) ≤ (j : Int) + 1 := by omega
      have hw5 : ((j : Int) + 1).toNat = j + 1 := by omega
      go_still_tail 10, (by kernel_rfl)
      change wpList _ _ _ _ _ wr.drew
      have HSA := fun a b W => same_any a b W
      have HSA' := hd HSA
      clear HSA
      go_wp2_with fail
      refine (HSA'.out _ _ _).mono ?_
      rintro e w1 ⟨rfl, hb1'⟩
      have HB1 : Hd (Below w.heap.size w w1) := hd (below_then (below_drew1 HB.out) HB.out.size hb1')
      clear ha0 ha1 hb0 hb1 hb1' hw1 hw6
      by_cases hs : xa.f1 = xb.f1
      · have hsb : (xa.f1 == xb.f1) = true := by simpa using hs
        have HSAME := hd hs
        clear hs
        have hcj : ¬ (c = j + 1) := by omega
        have hjn : j + 1 ≤ n := by omega
        go_wp2
        go_loopw [5, 7] (fun i k wr => ∃ (a q : Nat) (m : List S34), a ≤ j + 1 + q ∧ j + 1 + q + 1 ≤ n ∧ i = .int .i64 (a : Int) ∧ k = .int .i64 ((q : Int) + 1) ∧ m.length = n ∧ Hd (m.take a = compact (l.take (j + 1 + q + 1))) ∧ Hd (∀ t, j + 1 + q ≤ t → m.getD t z34 = l.getD t z34) ∧
          Hd (wr.heap[g]? = some (.cells (cells34 m ++ sp).toArray 34 (0, 0))) ∧ Hd (w.grownBy wr (some g))) (fun _ k _ => n - (intOf k).toNat)
        case atStart => exact ⟨j + 1, 0, l, by omega, by omega, by go_num, rfl, HN.out, hd (by rw [Nat.add_zero, compact_take l (j + 1) (by omega) (by rw [HN.out]; omega), HK.out, HXA.out, Nat.add_sub_cancel, HXB.out, if_pos HSAME.out, List.append_nil]), hd (fun _ _ => rfl), hd (by rw [HB1.out.block g (blk_lt HG.out)]; exact HG.out), hd (grown_of_below HB1.out _)⟩
        case round =>
          obtain ⟨a, q, m, haq, hqn, rfl, rfl, hml, HM, HT, HW, HR⟩ := hrel
          have HML := hd hml
          clear hml
          by_cases hlt2 : j + 1 + q + 1 < n
          · have hq1 : (q : Int) + 1 < ((n - (j + 1) : Nat) : Int) := by omega
            obtain ⟨ha0, ha1⟩ := row_get HW.out (j + 1 + (q + 1)) (by rw [HML.out]; omega)
            obtain ⟨hb0, hb1⟩ := row_get HW.out (j + 1 + q) (by rw [HML.out]; omega)
            rw [HT.out _ (by omega)] at ha0 ha1
            rw [HT.out _ (by omega)] at hb0 hb1
            generalize hya : l.getD (j + 1 + (q + 1)) z34 = ya at *
            generalize hyb : l.getD (j + 1 + q) z34 = yb at *
            have HYA := hd hya
            have HYB := hd hyb
            have CT : Hd (compact (l.take (j + 1 + (q + 1) + 1)) = m.take a ++ if ya.f1 = yb.f1 then [] else [ya]) := hd (by
              have h := compact_take l (j + 1 + (q + 1)) (by omega) (by rw [HN.out]; omega)
              rw [HYA.out, show j + 1 + (q + 1) - 1 = j + 1 + q by omega, HYB.out] at h
              rw [h, HM.out]
              rfl)
            clear hya hyb
            rw [show (j + 1 + (q + 1)) * 2 = (j + 1) * 2 + (q + 1) * 2 by omega] at ha0 ha1
            rw [show (j + 1 + q) * 2 = (j + 1) * 2 + q * 2 by omega] at hb0 hb1
            go_wp2_with fail
            have hv6 : IntKind.i64.wrap (q : Int) = (q : Int) := by rw [IntKind.wrap_i64]; omega
            have hv2 : (q : Int) < ((n - (j + 1) : Nat) : Int) := by omega
            have hv3 : (0 : Int) ≤ (q : Int) := by omega
            have hv4 : (0 : Int) ≤ (q : Int) + 1 := by omega
            have hv5 : ((q : Int) + 1).toNat = q + 1 := by omega
            have hv1 : IntKind.i64.wrap ((q : Int) + 1 - 1) = (q : Int) := by rw [IntKind.wrap_i64]; omega
            go_still_tail 10, (by kernel_rfl)
            change wpList _ _ _ _ _ wr.drew
            go_wp2_with fail
            refine (HSA'.out _ _ _).mono ?_
            rintro e w2 ⟨rfl, hb2⟩
            have HB2 := hd hb2
            clear hb2
            by_cases hs2 : ya.f1 = yb.f1
            · have hsb2 : (ya.f1 == yb.f1) = true := by simpa using hs2
              have HSAME2 := hd hs2
              clear hs2 ha0 ha1 hb0 hb1 hv1 hv6
              go_wp2
              go_roundw
              case rel => exact ⟨a, q + 1, m, by omega, by omega, rfl, by go_num, HML.out, hd (by rw [CT.out, if_pos HSAME2.out, List.append_nil]), hd (fun t ht => HT.out t (by omega)), hd (by rw [HB2.out.block g (blk_lt HW.out)]; exact HW.out), hd (grownBy_trans (grownBy_drew HR.out) (grown_of_below HB2.out _))⟩
              case measure => simp [intOf]; omega
            · have hsb2 : (ya.f1 == yb.f1) = false := by simpa using hs2
              have HDIF2 := hd hs2
              have HW2 : Hd (w2.heap[g]? = some (.cells (cells34 m ++ sp).toArray 34 (0, 0))) := hd (by rw [HB2.out.block g (blk_lt HW.out)]; exact HW.out)
              have hk0 : w2.cell? ⟨g, (j + 1) * 2 + (q + 1) * 2, none⟩ = some (.int .i64 ya.f0) := by rw [World.cell?_of_block (w := wr.drew) (HB2.out.block g (blk_lt HW.out))]; exact ha0
              have hk1 : w2.cell? ⟨g, (j + 1) * 2 + (q + 1) * 2 + 1, none⟩ = some (.int .i64 ya.f1) := by rw [World.cell?_of_block (w := wr.drew) (HB2.out.block g (blk_lt HW.out))]; exact ha1
              obtain ⟨hs0, hs1⟩ := row_get HW2.out a (by rw [HML.out]; omega)
              have hf0 : w2.frozen? ⟨g, a * 2, none⟩ = false := frozen_block HW2.out
              have hf1 : w2.frozen? ⟨g, a * 2 + 1, none⟩ = false := frozen_block HW2.out
              have han : a < n := by omega
              clear hs2 ha0 ha1 hb0 hb1 hv1 hv6
              have hy : m.set a ya = m.set a ya := rfl
              go_wp2
              go_roundw
              case rel => exact ⟨a + 1, q + 1, m.set a ya, by omega, by omega, by go_num, by go_num, by rw [List.length_set]; exact HML.out, hd (by rw [CT.out, if_neg HDIF2.out, take_snoc_getD _ _ (by rw [List.length_set, HML.out]; omega), List.take_set_of_le (Nat.le_refl a)]; simp [List.getD_eq_getElem?_getD, HML.out, han]), hd (fun t ht => by rw [← HT.out t (by omega)]; simp [List.getD_eq_getElem?_getD, show ¬ a = t by omega]), hd (row_set HW2.out a ya (by rw [HML.out]; omega)), hd (grownBy_set (grownBy_set (grownBy_trans (grownBy_drew HR.out) (grown_of_below HB2.out _)) _ rfl _) _ rfl _)⟩
              case measure => simp [intOf]; omega
          · have hca : ¬ (c = a) := by omega
            have han : a ≤ n := by omega
            have HF : Hd (a * 2 + (n - a) * 2 ≤ (cells34 m ++ sp).length) := hd (by rw [List.length_append, cells34_length, HML.out]; omega)
            go_wp2_with (refine wpList_clear_k rfl _ 22 rfl 34 (.agg #[.int .i64 0, .int .i64 0]) 2 Try.underlying22 (fun W => by kernel_rfl) rfl (by decide) g (a * 2) (n - a) (c - a) rfl (cells34 m ++ sp) 34 HW.out HF.out ?_; intro w3 zs Z1 Z2 Z3)
            go_wp2
            go_ret
            have e1 : compact l = m.take a := by
              rw [HM.out, show j + 1 + q + 1 = l.length by rw [HN.out]; omega, List.take_length]
            have e2 : (splice (cells34 m ++ sp) (a * 2) zs).length = c * 2 := by
              rw [length_splice _ _ _ (by rw [Z2.out]; exact HF.out), List.length_append, cells34_length, HML.out, HS.out]
              omega
            refine ⟨a, splice (cells34 m ++ sp) (a * 2) zs, rfl, han, ?_, Z1.out, e2, ?_, grownBy_trans HR.out Z3.out⟩
            · rw [e1, List.length_take, HML.out]
              omega
            · rw [e1, ← cells34_take]
              have h1 := cells34_length m
              have h2 := HML.out
              unfold splice
              rw [List.take_append_of_le_length (by rw [List.length_take, List.length_append]; omega), List.take_take, Nat.min_self, List.take_append_of_le_length (by omega)]
      · have hsb : (xa.f1 == xb.f1) = false := by simpa using hs
        have HDIF := hd hs
        clear hs
        go_wp2
        go_roundw
        case rel => exact ⟨j + 1, by omega, by go_num, hd (by rw [compact_take l (j + 1) (by omega) (by rw [HN.out]; omega), HK.out, HXA.out, Nat.add_sub_cancel, HXB.out, if_neg HDIF.out, ← HXA.out]; exact (take_snoc_getD l (j + 1) (by rw [HN.out]; omega)).symm), HB1⟩
        case measure => simp [intOf]; omega
    · go_wp2
      go_ret
      have e1 : compact l = l := by
        have := HK.out
        rwa [show j + 1 = l.length by rw [HN.out]; omega, List.take_length] at this
      refine ⟨n, cells34 l ++ sp, rfl, Nat.le_refl _, by rw [e1, HN.out], hgr.out, ?_, ?_, grown_of_below HB.out _⟩
      · rw [List.length_append, cells34_length, HN.out, HS.out]
        omega
      · rw [e1, List.take_append_of_le_length (by rw [cells34_length, HN.out]; exact Nat.le_refl _), List.take_of_length_le (by rw [cells34_length, HN.out]; exact Nat.le_refl _)]
set_option maxHeartbeats 1000000 in
theorem compact_any (B n : Nat) (v : Value) (l : List S34) (w : World) (hown : w.ownsRow B 34 2 v n (cells34 l)) :
    Calls Try.prog 30 #[v, .func (.func 31) #[] #[]] w fun e w' => ∃ v', e = .returned v' ∧ w'.ownsRow B 34 2 v' (compact l).length (cells34 (compact l)) ∧ w.grownBy w' v.ownBlock := by
  have hln : l.length = n := by have := hown.1; rw [cells34_length] at this; omega
  by_cases h2 : 2 ≤ n
  · obtain ⟨g, cap, cur, rfl, hbg, hg, hnc, hcm, hcl, htk⟩ := own_open hown (by omega)
    have hcur : cur = cells34 l ++ cur.drop (n * 2) := by rw [← htk, List.take_append_drop]
    rw [hcur] at hg
    refine (compact_walk g n cap l (cur.drop (n * 2)) w hln h2 hnc (by unfold maxLen at hcm; omega) hg (by rw [List.length_drop, hcl]; omega)).mono ?_
    rintro e w' ⟨m, cur', rfl, hmn, hm, hg', hcl', ht, hr⟩
    exact ⟨_, rfl, by rw [← hm]; exact own_shut hbg hg' (by omega) hcm hcl' ht, hr⟩
  · have e1 : compact l = l := by
      match l, hln with
      | [], _ => rfl
      | [a], _ => rfl
      | _ :: _ :: _, h => exact absurd h (by simp; omega)
    obtain ⟨A, c, rfl, _, _⟩ := C34_own hown
    have hz : decide ((l.length : Int) < 2) = true := by simp; omega
    have hz' : decide (l.length < 2) = true := by simp; omega
    rw [e1]
    subst hln
    have HO := hd hown
    clear hown e1
    go_enter Try.func30, Try.ntmps30
    go_wp2
    go_ret
    exact ⟨_, rfl, HO.out, grownBy_refl _ _⟩
end Go.Proofs.Yteipoopdnimiaaa.Pr
