/-
  slices.DeleteFunc of the kept replies up to a floor, proved by hand.
-/
import Derived.Test.YtafnjlgdjhegaaaHKept
namespace Go.Proofs.Ytafnjlgdjhegaaa.Pr
open Go.RowKit Go.Proofs.YtafnjlgdjhegaaaW.PrintWords Go.Proofs.YtafnjlgdjhegaaaW.PrintLast Go.Proofs.YtafnjlgdjhegaaaW.PrintMore Go.Proofs.YtafnjlgdjhegaaaG
set_option linter.unusedVariables false
set_option linter.unusedSimpArgs false
/-! ### those up to a floor -/
/-- The closure finds the floor f: in the box pb lies where the client lies. -/
def Floor (w : World) (pb : Addr) (f : Int) : Prop := ∃ pc : Addr, w.cell? pb = some (.pointer (some pc)) ∧ w.cell? ⟨pc.block, pc.off + 1, none⟩ = some (.int .i64 f)
theorem Floor.below {w w1 : World} {pb : Addr} {f : Int} (h : Floor w pb f) (hb : Below w.heap.size w w1) : Floor w1 pb f := by
  obtain ⟨pc, h1, h2⟩ := h
  exact ⟨pc, pw_cell_below hb h1, pw_cell_below hb h2⟩
set_option maxHeartbeats 400000 in
theorem upto46_any (p : P46) (pb : Addr) (f : Int) (w : World) (hf : Floor w pb f) : Calls Try.prog 40 #[.agg #[.int .i64 p.1.f0, p.2], .pointer (some pb)] w fun e w' => e = .returned (.bool (decide (p.1.f0 ≤ f))) ∧ Below w.heap.size w w' := by
  have HB : Hd (Below w.heap.size w (w.alloc (.cells #[.int .i64 p.1.f0, p.2] 46))) := hd (below_alloc (Below.refl _ _) _)
  obtain ⟨pc, h1, h2⟩ := hf.below HB.out
  have h3 : (w.alloc (.cells #[.int .i64 p.1.f0, p.2] 46)).cell? ⟨w.heap.size, 0, none⟩ = some (.int .i64 p.1.f0) := by go_simp
  go_enter Try.func40, Try.ntmps40
  go_wp2
  go_quiet (fail)
  go_wp2
  go_ret
  exact ⟨rfl, pw_below_drewN HB.out _⟩

/-! ### slices.IndexFunc, slices.DeleteFunc -/
def over (f : Int) (p : P46) : Bool := decide (f < p.1.f0)
theorem filter_take {f : Int} {ps : List P46} {j : Nat} (h : j < ps.length) : (ps.take (j + 1)).filter (over f) = (ps.take j).filter (over f) ++ if over f (ps.getD j zp46) = true then [ps.getD j zp46] else [] := by
  rw [List.take_succ_eq_append_getElem h, List.filter_append]
  congr 1
  rw [List.getD_eq_getElem?_getD, List.getElem?_eq_getElem h]
  simp only [Option.getD_some, List.filter_cons, List.filter_nil]
set_option maxHeartbeats 400000 in
theorem index46_nil (A : Option Addr) (c : Nat) (pb : Addr) (w : World) : Calls Try.prog 62 #[.slice A 0 c, .func (.func 40) #[] #[.pointer (some pb)]] w fun e w' => e = .returned (.int .i64 (-1)) ∧ Below w.heap.size w w' := by
  go_enter Try.func62, Try.ntmps62
  go_wp2
  go_loopw [8] (fun i wr => i = .int .i64 0 ∧ Hd (Below w.heap.size w wr)) (fun i _ => 0)
  case atStart => exact ⟨rfl, hd (Below.refl _ _)⟩
  case round =>
    obtain ⟨rfl, HB⟩ := hrel
    go_wp2
    go_ret
    exact ⟨rfl, HB.out⟩
set_option maxHeartbeats 1000000 in
theorem index46_any (g c : Nat) (ps : List P46) (sp : List Value) (pb : Addr) (f : Int) (w : World) (hn : ps.length ≤ 9223372036854775807) (hg : w.heap[g]? = some (.cells (cells46 ps ++ sp).toArray 46 (0, 0))) (hF : Floor w pb f) :
    Calls Try.prog 62 #[.slice (some ⟨g, 0, none⟩) ps.length c, .func (.func 40) #[] #[.pointer (some pb)]] w fun e w' => ∃ r : Int, e = .returned (.int .i64 r) ∧ (r = -1 ∧ ps.filter (over f) = ps ∨ ∃ j : Nat, r = j ∧ j < ps.length ∧ (ps.take j).filter (over f) = ps.take j ∧ over f (ps.getD j zp46) = false) ∧ Below w.heap.size w w' := by
  have HG := hd hg
  have HF := hd hF
  clear hg hF
  have HU := hd upto46_any
  go_enter Try.func62, Try.ntmps62
  go_wp2
  go_loopw [8] (fun i wr => ∃ j : Nat, j ≤ ps.length ∧ i = .int .i64 (j : Int) ∧ Hd ((ps.take j).filter (over f) = ps.take j) ∧ Hd (Below w.heap.size w wr)) (fun i _ => ps.length - (intOf i).toNat)
  case atStart => exact ⟨0, by omega, rfl, hd (by simp), hd (Below.refl _ _)⟩
  case round =>
    obtain ⟨j, hj, rfl, HK, HB⟩ := hrel
    by_cases hlt : j < ps.length
    · have hgr : wr.heap[g]? = some (.cells (cells46 ps ++ sp).toArray 46 (0, 0)) := by rw [HB.out.block g (blk_lt HG.out)]; exact HG.out
      obtain ⟨h0, h1⟩ := row46_get hgr j hlt
      have FT := hd (filter_take (f := f) hlt)
      have TS : Hd (ps.take (j + 1) = ps.take j ++ [ps.getD j zp46]) := hd (by rw [List.take_succ_eq_append_getElem hlt]; simp [List.getD_eq_getElem?_getD, List.getElem?_eq_getElem hlt])
      obtain ⟨x, hx⟩ : ∃ x, ps.getD j zp46 = x := ⟨_, rfl⟩
      rw [hx] at h0 h1 FT TS
      have HX := hd hx
      clear hx hgr
      have hj' : (j : Int) < (ps.length : Int) := by omega
      go_wp2_with fail
      refine (HU.out x pb f wr (HF.out.below HB.out)).mono ?_
      rintro e w1 ⟨rfl, hb1⟩
      have HB1 : Hd (Below w.heap.size w w1) := hd (below_then HB.out HB.out.size hb1)
      clear hb1 h0 h1
      by_cases hle : x.1.f0 ≤ f
      · have hov : over f x = false := by unfold over; simpa using hle
        have HOV := hd hov
        clear hov
        go_wp2
        go_ret
        exact ⟨(j : Int), rfl, .inr ⟨j, rfl, hlt, HK.out, by rw [HX.out]; exact HOV.out⟩, HB1.out⟩
      · have hov : over f x = true := by unfold over; simpa using hle
        have hle' : decide (x.1.f0 ≤ f) = false := by simpa using hle
        have HOV := hd hov
        clear hov
        go_wp2
        go_roundw
        case rel => exact ⟨j + 1, by omega, by go_num, hd (by rw [FT.out, if_pos HOV.out, HK.out, TS.out]), HB1⟩
        case measure => simp [intOf]; omega
    · go_wp2
      go_ret
      have hk := HK.out
      rw [List.take_of_length_le (by omega)] at hk
      exact ⟨-1, rfl, .inl ⟨rfl, hk⟩, HB.out⟩
theorem grownBy_set {w w1 : World} {g : Nat} (h : w.grownBy w1 (some g)) (p : Addr) (hp : p.block = g) (u : Value) : w.grownBy (w1.setCell p u) (some g) :=
  ⟨h.os, h.tape, h.output, by simpa using h.size, fun k hk hr => (Below.heap_setCell w1 p u k (by rintro rfl; exact hr (by rw [hp]))).trans (h.block k hk hr)⟩
theorem take_snoc_p {l : List P46} {j : Nat} (h : j < l.length) : l.take (j + 1) = l.take j ++ [l.getD j zp46] := by
  rw [List.take_succ_eq_append_getElem h]
  simp [List.getD_eq_getElem?_getD, List.getElem?_eq_getElem h]
theorem cell_size1 {w : World} : w.heap.size < (w.alloc (.cells #[.int .i64 0] 0)).heap.size := by simp
set_option maxRecDepth 100000 in
set_option maxHeartbeats 2000000 in
theorem delete46_walk (g c : Nat) (ps : List P46) (sp : List Value) (pb : Addr) (f : Int) (w : World) (h1s : ones46 ps) (hnc : ps.length ≤ c) (hc : c ≤ 9223372036854775807) (hg : w.heap[g]? = some (.cells (cells46 ps ++ sp).toArray 46 (0, 0))) (hsp : sp.length = (c - ps.length) * 2)
    (hF : ∀ W, w.grownBy W (some g) → Floor W pb f) :
    Calls Try.prog 39 #[.slice (some ⟨g, 0, none⟩) ps.length c, .func (.func 40) #[] #[.pointer (some pb)]] w fun e w' => ∃ m cur, e = .returned (.slice (some ⟨g, 0, none⟩) m c) ∧ m ≤ ps.length ∧ m = (ps.filter (over f)).length ∧
      w'.heap[g]? = some (.cells (List.toArray cur) 46 (0, 0)) ∧ cur.length = c * 2 ∧ cur.take (m * 2) = cells46 (ps.filter (over f)) ∧ w.grownBy w' (some g) := by
  have HG := hd hg
  have HS := hd hsp
  have HF := hd hF
  have H1 := hd h1s
  clear hg hsp hF h1s
  obtain ⟨n, hn⟩ : ∃ n, ps.length = n := ⟨_, rfl⟩
  have HN := hd hn
  have IX := hd (index46_any g c ps sp pb f w (by omega) HG.out (HF.out _ (grownBy_refl _ _)))
  rw [hn] at IX hnc HS ⊢
  clear hn
  have HU := hd upto46_any
  go_enter Try.func39, Try.ntmps39
  go_wp2_with fail
  refine IX.out.mono ?_
  rintro e w1 ⟨r, rfl, hr, hb1⟩
  have HB1 := hd hb1
  clear hb1
  rcases hr with ⟨rfl, hall⟩ | ⟨j, rfl, hj, hk, hov⟩
  · have HALL := hd hall
    clear hall
    go_wp2
    go_ret
    refine ⟨n, cells46 ps ++ sp, rfl, Nat.le_refl _, by rw [HALL.out, HN.out], by rw [HB1.out.block g (blk_lt HG.out)]; exact HG.out, ?_, ?_, grown_of_below HB1.out _⟩
    · rw [List.length_append, cells46_length, HN.out, HS.out]
      omega
    · rw [HALL.out, List.take_append_of_le_length (by rw [cells46_length, HN.out]; exact Nat.le_refl _), List.take_of_length_le (by rw [cells46_length, HN.out]; exact Nat.le_refl _)]
  · have hm1 : ¬ ((j : Int) = -1) := by omega
    have hm2 : ((j : Int) == -1) = false := by simp
    have HK := hd hk
    have HOV := hd hov
    clear hk hov
    go_wp2
    go_loopw [5, 6] (fun i k wr => ∃ (a q : Nat) (m : List P46), a < q ∧ q ≤ n ∧ i = .int .i64 (a : Int) ∧ k = .int .i64 (q : Int) ∧ m.length = n ∧ Hd (m.take a = (ps.take q).filter (over f)) ∧ Hd (∀ t, q ≤ t → m.getD t zp46 = ps.getD t zp46) ∧
          Hd (ones46 m) ∧ Hd (wr.heap[g]? = some (.cells (cells46 m ++ sp).toArray 46 (0, 0))) ∧ Hd (w.grownBy wr (some g))) (fun _ k _ => n - (intOf k).toNat)
    case atStart => exact ⟨j, j + 1, ps, by omega, by have := HN.out; omega, rfl, by go_num, HN.out, hd (by rw [filter_take (by have := HN.out; omega), HK.out, HOV.out]; simp), hd (fun _ _ => rfl), H1, hd (by rw [HB1.out.block g (blk_lt HG.out)]; exact HG.out), hd (grown_of_below HB1.out _)⟩
    case round =>
      obtain ⟨a, q, m, haq, hqn, rfl, rfl, hml, HM, HT, HO, HW, HR⟩ := hrel
      have HML := hd hml
      clear hml
      by_cases hlt2 : q < n
      · have hq1 : (q : Int) < (n : Int) := by omega
        obtain ⟨hb0, hb1⟩ := row46_get HW.out q (by rw [HML.out]; exact hlt2)
        rw [HT.out _ (Nat.le_refl _)] at hb0 hb1
        have FT := hd (filter_take (f := f) (ps := ps) (j := q) (by rw [HN.out]; exact hlt2))
        obtain ⟨x, hx⟩ : ∃ x, ps.getD q zp46 = x := ⟨_, rfl⟩
        rw [hx] at hb0 hb1 FT
        obtain ⟨A', n', c', hx1⟩ := H1.out x (by rw [← hx, List.getD_eq_getElem?_getD, List.getElem?_eq_getElem (by rw [HN.out]; exact hlt2)]; exact List.getElem_mem _)
        obtain ⟨x1, x2⟩ := x
        have hx1 : x2 = .slice A' n' c' := hx1
        subst hx1
        replace hb0 : wr.cell? ⟨g, q * 2, none⟩ = some (.int .i64 x1.f0) := hb0
        replace hb1 : wr.cell? ⟨g, q * 2 + 1, none⟩ = some (.slice A' n' c') := hb1
        have HX := hd hx
        clear hx
        have GA : Hd (w.grownBy (wr.alloc (.cells #[.int .i64 x1.f0, .slice A' n' c'] 46)) (some g)) := hd (grownBy_trans HR.out (grown_of_below (below_alloc (Below.refl _ _) _) _))
        go_wp2_with fail
        refine (HU.out (x1, .slice A' n' c') pb f _ (HF.out _ GA.out)).mono ?_
        rintro e w2 ⟨rfl, hb2⟩
        have HR2 : Hd (w.grownBy w2 (some g)) := hd (grownBy_trans GA.out (grown_of_below hb2 _))
        have hgW : (wr.alloc (.cells #[.int .i64 x1.f0, .slice A' n' c'] 46)).heap[g]? = some (.cells (cells46 m ++ sp).toArray 46 (0, 0)) := by
          rw [(below_alloc (Below.refl wr.heap.size _) _).block g (blk_lt HW.out)]
          exact HW.out
        have HW2 : Hd (w2.heap[g]? = some (.cells (cells46 m ++ sp).toArray 46 (0, 0))) := hd (by rw [hb2.block g (blk_lt hgW)]; exact hgW)
        have hk0 : w2.cell? ⟨wr.heap.size, 0, none⟩ = some (.int .i64 x1.f0) := pw_cell_below hb2 (by go_simp)
        have hk1 : w2.cell? ⟨wr.heap.size, 1, none⟩ = some (.slice A' n' c') := pw_cell_below hb2 (by go_simp)
        clear hb2 hgW hb0 hb1
        by_cases hle : x1.f0 ≤ f
        · have hov : over f (x1, .slice A' n' c') = false := by unfold over; simpa using hle
          have HOV2 := hd hov
          clear hov hk0 hk1
          have hle' : decide (x1.f0 ≤ f) = true := by simpa using hle
          go_wp2
          go_roundw
          case rel => exact ⟨a, q + 1, m, by omega, by omega, rfl, by go_num, HML.out, hd (by rw [FT.out, HOV2.out, HM.out]; simp), hd (fun t ht => HT.out t (by omega)), HO, HW2, HR2⟩
          case measure => simp [intOf]; omega
        · have hov : over f (x1, .slice A' n' c') = true := by unfold over; simpa using hle
          have HOV2 := hd hov
          clear hov
          have hle' : decide (x1.f0 ≤ f) = false := by simpa using hle
          have han : a < n := by omega
          obtain ⟨hs0, hs1⟩ := row46_get HW2.out a (by rw [HML.out]; exact han)
          have hf0 : w2.frozen? ⟨g, a * 2, none⟩ = false := frozen_block HW2.out
          have hf1 : w2.frozen? ⟨g, a * 2 + 1, none⟩ = false := frozen_block HW2.out
          go_wp2
          go_roundw
          case rel => exact ⟨a + 1, q + 1, m.set a (x1, .slice A' n' c'), by omega, by omega, by go_num, by go_num, by rw [List.length_set]; exact HML.out, hd (by rw [FT.out, if_pos HOV2.out, take_snoc_p (by rw [List.length_set, HML.out]; omega), List.take_set_of_le (Nat.le_refl a), HM.out]; simp [List.getD_eq_getElem?_getD, HML.out, han]), hd (fun t ht => by rw [← HT.out t (by omega)]; simp [List.getD_eq_getElem?_getD, show ¬ a = t by omega]), hd (fun p hp => (List.mem_or_eq_of_mem_set hp).elim (HO.out p) (fun e => by rw [e]; exact ⟨_, _, _, rfl⟩)), hd (row46_set HW2.out a (x1, .slice A' n' c') (by rw [HML.out]; omega)), hd (grownBy_set (grownBy_set HR2.out _ rfl _) _ rfl _)⟩
          case measure => simp [intOf]; omega
      · have hca : ¬ (c = a) := by omega
        have han : a ≤ n := by omega
        have HFI : Hd (a * 2 + (n - a) * 2 ≤ (cells46 m ++ sp).length) := hd (by rw [List.length_append, cells46_length, HML.out]; omega)
        go_wp2_with (refine wpList_clear_k rfl _ 42 rfl 46 (.agg #[.int .i64 0, .slice none 0 0]) 2 Try.underlying42 (fun W => by kernel_rfl) rfl (by decide) g (a * 2) (n - a) (c - a) rfl (cells46 m ++ sp) 46 HW.out HFI.out ?_; intro w3 zs Z1 Z2 Z3)
        go_wp2
        go_ret
        have e1 : ps.filter (over f) = m.take a := by
          rw [HM.out, show q = ps.length by rw [HN.out]; omega, List.take_length]
        have e2 : (splice (cells46 m ++ sp) (a * 2) zs).length = c * 2 := by
          rw [length_splice _ _ _ (by rw [Z2.out]; exact HFI.out), List.length_append, cells46_length, HML.out, HS.out]
          omega
        refine ⟨a, splice (cells46 m ++ sp) (a * 2) zs, rfl, han, ?_, Z1.out, e2, ?_, grownBy_trans HR.out Z3.out⟩
        · rw [e1, List.length_take, HML.out]
          omega
        · rw [e1, ← cells46_take]
          have h1 := cells46_length m
          have h2 := HML.out
          unfold splice
          rw [List.take_append_of_le_length (by rw [List.length_take, List.length_append]; omega), List.take_take, Nat.min_self, List.take_append_of_le_length (by omega)]
/-- slices.DeleteFunc of those up to the floor, on a row of the call's own. -/
theorem delete46_any (base : Nat) (ok : Nat → Prop) (v : Value) (xs : List S46) (pb : Addr) (f : Int) (w : World) (h : Kd.R k46 46 w base ok v xs) (hF : ∀ W, w.grownBy W v.ownBlock → Floor W pb f) :
    Calls Try.prog 39 #[v, .func (.func 40) #[] #[.pointer (some pb)]] w fun e w' => ∃ v', e = .returned v' ∧ Kd.R k46 46 w' base ok v' (xs.filter fun x => decide (f < x.f0)) ∧ w.grownBy w' v.ownBlock ∧ v'.ownBlock = v.ownBlock := by
  obtain ⟨ps, rfl, hone, h0, ho, hr⟩ := R46_open h
  rcases Nat.eq_zero_or_pos ps.length with hz | hp
  · obtain rfl : ps = [] := List.eq_nil_of_length_eq_zero hz
    obtain ⟨A, c, rfl⟩ := Kd.R_slice h
    have H := hd h
    clear h h0 ho hr hone hF
    have IX := hd (index46_nil A c pb w)
    show Calls Try.prog 39 #[.slice A 0 c, .func (.func 40) #[] #[.pointer (some pb)]] w _
    go_enter Try.func39, Try.ntmps39
    go_wp2_with fail
    refine IX.out.mono ?_
    rintro e w1 ⟨rfl, hb1⟩
    have HB1 := hd hb1
    clear hb1
    go_wp2
    go_ret
    exact ⟨_, rfl, Kd.R_below H.out HB1.out, grown_of_below HB1.out _, rfl⟩
  · obtain ⟨g, cap, cur, rfl, hbg, hg, hnc, hcm, hcl, htk⟩ := own_open ho hp
    have hcur : cur = cells46 ps ++ cur.drop (ps.length * 2) := by rw [← htk, List.take_append_drop]
    rw [hcur] at hg
    have hob : (Value.slice (some ⟨g, 0, none⟩) ps.length cap).ownBlock = some g := rfl
    refine (delete46_walk g cap ps (cur.drop (ps.length * 2)) pb f w hone hnc (by unfold maxLen at hcm; omega) hg (by rw [List.length_drop, hcl]; omega) (fun W hW => hF W hW)).mono ?_
    rintro e w' ⟨m, cur', rfl, hmn, hm, hg', hcl', ht, hgr⟩
    refine ⟨_, rfl, ?_, hgr, rfl⟩
    have e1 : (ps.map Prod.fst).filter (fun x => decide (f < x.f0)) = (ps.filter (over f)).map Prod.fst := by rw [List.filter_map]; rfl
    rw [e1]
    refine R46_shut h0 (by rw [← hm]; exact own_shut hbg hg' (by omega) hcm hcl' ht) fun p hp => ?_
    exact Kd.R_grown (hr p ((List.mem_filter.1 hp).1)) hgr (fun k hk => hk.2)
end Go.Proofs.Ytafnjlgdjhegaaa.Pr
