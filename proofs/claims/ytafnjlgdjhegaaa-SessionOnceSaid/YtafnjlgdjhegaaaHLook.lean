-- MINIFIED by wip/tools/minify.py
/-
 Texts of this session, laid together by wip/tools/merge.py: HKept, HDel, HRight, HLook.
-/
import Derived.Test.YtafnjlgdjhegaaaHR46
import Derived.Test.YtafnjlgdjhegaaaHClone
import Derived.Test.YtafnjlgdjhegaaaHR44
import Derived.Test.YtafnjlgdjhegaaaQ0
import Derived.Test.YtafnjlgdjhegaaaHRows
import Derived.Test.YtafnjlgdjhegaaaHIns44
section
namespace Go.Proofs.Ytafnjlgdjhegaaa.Pr
open Go.RowKit Go.Proofs.YtafnjlgdjhegaaaW.PrintWords Go.Proofs.YtafnjlgdjhegaaaW.PrintLast Go.Proofs.YtafnjlgdjhegaaaW.PrintMore Go.Proofs.YtafnjlgdjhegaaaG
set_option linter.unusedVariables false
set_option linter.unusedSimpArgs false
/-! ### kept replies with the slices that hold them -/
abbrev P46 := S46 × Value
def cell46 (p : P46) : List Value := [.int .i64 p.1.f0, p.2]
def cells46 (ps : List P46) : List Value := ps.flatMap cell46
theorem cells46_cons (p : P46) (ps : List P46) : cells46 (p :: ps) = cell46 p ++ cells46 ps := rfl
theorem cells46_append (l m : List P46) : cells46 (l ++ m) = cells46 l ++ cells46 m := by simp [cells46]
theorem cells46_length (ps : List P46) : (cells46 ps).length = ps.length * 2 := by
 induction ps with
 | nil => rfl
 | cons p ps ih => rw [cells46_cons, List.length_append, ih]; simp [cell46]; omega
theorem cells46_take (l : List P46) (i : Nat) : (cells46 l).take (i * 2) = cells46 (l.take i) := by
 induction l generalizing i with
 | nil => simp [cells46]
 | cons c l ih =>
  cases i with
  | zero => simp [cells46]
  | succ i =>
   rw [List.take_succ_cons, cells46_cons, cells46_cons, ← ih, show (i + 1) * 2 = i * 2 + 1 + 1 by omega]
   rfl
theorem cells46_drop (l : List P46) (i : Nat) : (cells46 l).drop (i * 2) = cells46 (l.drop i) := by
 induction l generalizing i with
 | nil => simp [cells46]
 | cons c l ih =>
  cases i with
  | zero => simp
  | succ i =>
   rw [List.drop_succ_cons, cells46_cons, ← ih, show (i + 1) * 2 = i * 2 + 1 + 1 by omega]
   rfl
theorem cells46_get (l : List P46) (j i : Nat) (p : P46) (hp : l[j]? = some p) (hi : i < 2) : (cells46 l)[j * 2 + i]? = (cell46 p)[i]? := by
 have h1 : (cells46 l).drop (j * 2) = cell46 p ++ cells46 (l.drop (j + 1)) := by
  rw [cells46_drop, List.drop_eq_getElem_cons (List.getElem?_eq_some_iff.1 hp).1, (List.getElem?_eq_some_iff.1 hp).2, cells46_cons]
 rw [← List.getElem?_drop, h1, List.getElem?_append_left (by simpa [cell46] using hi)]
/-- The slices are slices. -/
def ones46 (ps : List P46) : Prop := ∀ p ∈ ps, ∃ A n c, p.2 = .slice A n c
theorem cells46_one {l : List P46} (h : ones46 l) : ∀ u ∈ cells46 l, u.oneCell' = true := by
 intro u hu
 simp only [cells46, List.mem_flatMap, cell46, List.mem_cons, List.not_mem_nil, or_false] at hu
 obtain ⟨c, hc, rfl | rfl⟩ := hu
 ·rfl
 ·obtain ⟨_, _, _, e⟩ := h c hc
  rw [e]
  rfl
theorem cells46_set (m : List P46) (a : Nat) (y : P46) (h : a < m.length) : ((cells46 m).set (a * 2) (.int .i64 y.1.f0)).set (a * 2 + 1) y.2 = cells46 (m.set a y) := by
 induction m generalizing a with
 | nil => simp at h
 | cons c m ih =>
  cases a with
  | zero => rfl
  | succ a =>
   rw [List.set_cons_succ, cells46_cons, cells46_cons, ← ih a (by simpa using h), show (a + 1) * 2 = a * 2 + 1 + 1 by omega]
   rfl
def zp46 : P46 := (z46, .slice none 0 0)
theorem row46_get {w : World} {g : Nat} {l : List P46} {sp : List Value} (h : w.heap[g]? = some (.cells (cells46 l ++ sp).toArray 46 (0, 0))) (j : Nat) (hj : j < l.length) :
  w.cell? ⟨g, j * 2, none⟩ = some (.int .i64 (l.getD j zp46).1.f0) ∧ w.cell? ⟨g, j * 2 + 1, none⟩ = some (l.getD j zp46).2 := by
 have hp : l[j]? = some (l.getD j zp46) := by simp [List.getD_eq_getElem?_getD, List.getElem?_eq_getElem hj]
 have hl := cells46_length l
 refine ⟨?_, ?_⟩
 ·rw [cell_block h, List.getElem?_append_left (by omega)]
  exact cells46_get l j 0 _ hp (by omega)
 ·rw [cell_block h, List.getElem?_append_left (by omega)]
  exact cells46_get l j 1 _ hp (by omega)
theorem row46_set {w : World} {g : Nat} {m : List P46} {sp : List Value} (h : w.heap[g]? = some (.cells (cells46 m ++ sp).toArray 46 (0, 0))) (a : Nat) (y : P46) (ha : a < m.length) :
  ((w.setCell ⟨g, a * 2, none⟩ (.int .i64 y.1.f0)).setCell ⟨g, a * 2 + 1, none⟩ y.2).heap[g]? = some (.cells (cells46 (m.set a y) ++ sp).toArray 46 (0, 0)) := by
 rw [heap_setCell_same _ g (a * 2 + 1) _ 46 _ (heap_setCell_same w g (a * 2) _ 46 _ h)]
 have hl := cells46_length m
 congr 2
 rw [← cells46_set m a y ha]
 simp only [List.setIfInBounds_toArray]
 rw [List.set_append_left _ _ (by omega), List.set_append_left _ _ (by rw [List.length_set]; omega)]
/-- What R says of a row of kept replies, with their slices. -/
theorem R46_open {w : World} {base : Nat} {ok : Nat → Prop} {v : Value} {xs : List S46} (h : Kd.R k46 46 w base ok v xs) :
  ∃ ps : List P46, ps.map Prod.fst = xs ∧ ones46 ps ∧ (∀ k, v.ownBlock = some k → ok k) ∧ w.ownsRow base 46 2 v ps.length (cells46 ps) ∧ ∀ p ∈ ps, Kd.R (Kd.int .u8) 5 w base (fun k => ok k ∧ some k ≠ v.ownBlock) p.2 p.1.f1 := by
 obtain ⟨h0, inner, ho, hr⟩ := h
 have key : ∀ (xs : List S46) (inner : List Value), Reps (k46.M w base (fun k => ok k ∧ some k ≠ v.ownBlock)) 2 xs inner → ∃ ps : List P46, ps.map Prod.fst = xs ∧ inner = cells46 ps ∧ ∀ p ∈ ps, Kd.R (Kd.int .u8) 5 w base (fun k => ok k ∧ some k ≠ v.ownBlock) p.2 p.1.f1 := by
  intro xs
  induction xs with
  | nil =>
   rintro inner ⟨hl, _⟩
   exact ⟨[], rfl, List.eq_nil_of_length_eq_zero (by simpa using hl), by simp⟩
  | cons x xs ih =>
   rintro inner ⟨hl, hr⟩
   obtain ⟨s, hs, hR⟩ := k46_openM (hr 0 x rfl)
   have hl2 : inner.length = xs.length * 2 + 2 := by rw [hl]; simp; omega
   obtain ⟨ps, h1, h2, h3⟩ := ih (inner.drop 2) ⟨by rw [List.length_drop, hl2]; omega, fun j p hp => by
    have := hr (j + 1) p (by simpa using hp)
    rwa [show (j + 1) * 2 = 2 + j * 2 by omega, ← List.drop_drop] at this⟩
   refine ⟨(x, s) :: ps, by rw [List.map_cons, h1], ?_, ?_⟩
   ·rw [cells46_cons, ← h2]
    have hs' : inner.take 2 = cell46 (x, s) := by
     unfold cell46
     simpa using hs
    rw [← hs', List.take_append_drop]
   ·intro p hp
    rcases List.mem_cons.1 hp with rfl | hp
    ·exact hR
    ·exact h3 p hp
 obtain ⟨ps, h1, h2, h3⟩ := key xs inner hr
 refine ⟨ps, h1, fun p hp => (by obtain ⟨A, c, e⟩ := Kd.R_slice (h3 p hp); exact ⟨A, _, c, e⟩), h0, ?_, h3⟩
 subst h2
 rw [← h1, List.length_map] at ho
 exact ho
theorem R46_shut {w : World} {base : Nat} {ok : Nat → Prop} {v : Value} {ps : List P46} (h0 : ∀ k, v.ownBlock = some k → ok k) (ho : w.ownsRow base 46 2 v ps.length (cells46 ps)) (hr : ∀ p ∈ ps, Kd.R (Kd.int .u8) 5 w base (fun k => ok k ∧ some k ≠ v.ownBlock) p.2 p.1.f1) :
  Kd.R k46 46 w base ok v (ps.map Prod.fst) := by
 refine ⟨h0, cells46 ps, by rw [List.length_map]; exact ho, by rw [List.length_map]; exact cells46_length ps, fun j x hx => ?_⟩
 rw [List.getElem?_map] at hx
 obtain ⟨p, hp, rfl⟩ := Option.map_eq_some_iff.1 hx
 have h1 : (cells46 ps).drop (j * 2) = cell46 p ++ cells46 (ps.drop (j + 1)) := by
  rw [cells46_drop, List.drop_eq_getElem_cons (List.getElem?_eq_some_iff.1 hp).1, (List.getElem?_eq_some_iff.1 hp).2, cells46_cons]
 show k46.M w base _ p.1 (((cells46 ps).drop (j * 2)).take 2)
 rw [h1]
 exact k46_mkM w base _ p.1 (hr p (List.mem_of_getElem? hp))
end Go.Proofs.Ytafnjlgdjhegaaa.Pr
end
section
namespace Go.Proofs.Ytafnjlgdjhegaaa.Pr
open Go.RowKit Go.Proofs.YtafnjlgdjhegaaaW.PrintWords Go.Proofs.YtafnjlgdjhegaaaW.PrintLast Go.Proofs.YtafnjlgdjhegaaaW.PrintMore Go.Proofs.YtafnjlgdjhegaaaG
set_option linter.unusedVariables false
set_option linter.unusedSimpArgs false
/-! ### those up to a floor -/
/-- The closure finds the floor f: in the box pb lies where the client lies. -/
def Floor (w : World) (pb : Addr) (f : Int) : Prop := ∃ pc : Addr, w.cell? pb = some (.pointer (some pc)) ∧ w.cell? ⟨pc.block, pc.off + 1, none⟩ = some (.int .i64 f)
theorem Floor.below {w w1 : World} {pb : Addr} {f : Int} (h : Floor w pb f) (hb : Below w.heap.size w w1) : Floor w1 pb f := by
 obtain ⟨pc, h1, h2⟩ := h
 exact ⟨pc, pw_cell_below hb h1, pw_cell_below hb h2⟩
set_option maxHeartbeats 400000 in
theorem upto46_any (p : P46) (pb : Addr) (f : Int) (w : World) (hf : Floor w pb f) : Calls Try.prog 40 #[.agg #[.int .i64 p.1.f0, p.2], .pointer (some pb)] w fun e w' => e = .returned (.bool (decide (p.1.f0 ≤ f))) ∧ Below w.heap.size w w' := by
 have HB : Hd (Below w.heap.size w (w.alloc (.cells #[.int .i64 p.1.f0, p.2] 46))) := hd (below_alloc (Below.refl _ _) _)
 obtain ⟨pc, h1, h2⟩ := hf.below HB.out
 have h3 : (w.alloc (.cells #[.int .i64 p.1.f0, p.2] 46)).cell? ⟨w.heap.size, 0, none⟩ = some (.int .i64 p.1.f0) := by go_simp
 go_enter Try.func40, Try.ntmps40
 go_wp2
 go_quiet (fail)
 go_wp2
 go_ret
 exact ⟨rfl, pw_below_drewN HB.out _⟩

/-! ### slices.IndexFunc, slices.DeleteFunc -/
def over (f : Int) (p : P46) : Bool := decide (f < p.1.f0)
theorem filter_take {f : Int} {ps : List P46} {j : Nat} (h : j < ps.length) : (ps.take (j + 1)).filter (over f) = (ps.take j).filter (over f) ++ if over f (ps.getD j zp46) = true then [ps.getD j zp46] else [] := by
 rw [List.take_succ_eq_append_getElem h, List.filter_append]
 congr 1
 rw [List.getD_eq_getElem?_getD, List.getElem?_eq_getElem h]
 simp only [Option.getD_some, List.filter_cons, List.filter_nil]
set_option maxHeartbeats 400000 in
theorem index46_nil (A : Option Addr) (c : Nat) (pb : Addr) (w : World) : Calls Try.prog 62 #[.slice A 0 c, .func (.func 40) #[] #[.pointer (some pb)]] w fun e w' => e = .returned (.int .i64 (-1)) ∧ Below w.heap.size w w' := by
 go_enter Try.func62, Try.ntmps62
 go_wp2
 go_loopw [8] (fun i wr => i = .int .i64 0 ∧ Hd (Below w.heap.size w wr)) (fun i _ => 0)
 case atStart => exact ⟨rfl, hd (Below.refl _ _)⟩
 case round =>
  obtain ⟨rfl, HB⟩ := hrel
  go_wp2
  go_ret
  exact ⟨rfl, HB.out⟩
set_option maxHeartbeats 1000000 in
theorem index46_any (g c : Nat) (ps : List P46) (sp : List Value) (pb : Addr) (f : Int) (w : World) (hn : ps.length ≤ 9223372036854775807) (hg : w.heap[g]? = some (.cells (cells46 ps ++ sp).toArray 46 (0, 0))) (hF : Floor w pb f) :
  Calls Try.prog 62 #[.slice (some ⟨g, 0, none⟩) ps.length c, .func (.func 40) #[] #[.pointer (some pb)]] w fun e w' => ∃ r : Int, e = .returned (.int .i64 r) ∧ (r = -1 ∧ ps.filter (over f) = ps ∨ ∃ j : Nat, r = j ∧ j < ps.length ∧ (ps.take j).filter (over f) = ps.take j ∧ over f (ps.getD j zp46) = false) ∧ Below w.heap.size w w' := by
 have HG := hd hg
 have HF := hd hF
 clear hg hF
 have HU := hd upto46_any
 go_enter Try.func62, Try.ntmps62
 go_wp2
 go_loopw [8] (fun i wr => ∃ j : Nat, j ≤ ps.length ∧ i = .int .i64 (j : Int) ∧ Hd ((ps.take j).filter (over f) = ps.take j) ∧ Hd (Below w.heap.size w wr)) (fun i _ => ps.length - (intOf i).toNat)
 case atStart => exact ⟨0, by omega, rfl, hd (by simp), hd (Below.refl _ _)⟩
 case round =>
  obtain ⟨j, hj, rfl, HK, HB⟩ := hrel
  by_cases hlt : j < ps.length
  ·have hgr : wr.heap[g]? = some (.cells (cells46 ps ++ sp).toArray 46 (0, 0)) := by rw [HB.out.block g (blk_lt HG.out)]; exact HG.out
   obtain ⟨h0, h1⟩ := row46_get hgr j hlt
   have FT := hd (filter_take (f := f) hlt)
   have TS : Hd (ps.take (j + 1) = ps.take j ++ [ps.getD j zp46]) := hd (by rw [List.take_succ_eq_append_getElem hlt]; simp [List.getD_eq_getElem?_getD, List.getElem?_eq_getElem hlt])
   obtain ⟨x, hx⟩ : ∃ x, ps.getD j zp46 = x := ⟨_, rfl⟩
   rw [hx] at h0 h1 FT TS
   have HX := hd hx
   clear hx hgr
   have hj' : (j : Int) < (ps.length : Int) := by omega
   go_wp2_with fail
   refine (HU.out x pb f wr (HF.out.below HB.out)).mono ?_
   rintro e w1 ⟨rfl, hb1⟩
   have HB1 : Hd (Below w.heap.size w w1) := hd (below_then HB.out HB.out.size hb1)
   clear hb1 h0 h1
   by_cases hle : x.1.f0 ≤ f
   ·have hov : over f x = false := by unfold over; simpa using hle
    have HOV := hd hov
    clear hov
    go_wp2
    go_ret
    exact ⟨(j : Int), rfl, .inr ⟨j, rfl, hlt, HK.out, by rw [HX.out]; exact HOV.out⟩, HB1.out⟩
   ·have hov : over f x = true := by unfold over; simpa using hle
    have hle' : decide (x.1.f0 ≤ f) = false := by simpa using hle
    have HOV := hd hov
    clear hov
    go_wp2
    go_roundw
    case rel => exact ⟨j + 1, by omega, by go_num, hd (by rw [FT.out, if_pos HOV.out, HK.out, TS.out]), HB1⟩
    case measure => simp [intOf]; omega
  ·go_wp2
   go_ret
   have hk := HK.out
   rw [List.take_of_length_le (by omega)] at hk
   exact ⟨-1, rfl, .inl ⟨rfl, hk⟩, HB.out⟩
theorem grownBy_set {w w1 : World} {g : Nat} (h : w.grownBy w1 (some g)) (p : Addr) (hp : p.block = g) (u : Value) : w.grownBy (w1.setCell p u) (some g) :=
 ⟨h.os, h.tape, h.output, by simpa using h.size, fun k hk hr => (Below.heap_setCell w1 p u k (by rintro rfl; exact hr (by rw [hp]))).trans (h.block k hk hr)⟩
theorem take_snoc_p {l : List P46} {j : Nat} (h : j < l.length) : l.take (j + 1) = l.take j ++ [l.getD j zp46] := by
 rw [List.take_succ_eq_append_getElem h]
 simp [List.getD_eq_getElem?_getD, List.getElem?_eq_getElem h]
theorem cell_size1 {w : World} : w.heap.size < (w.alloc (.cells #[.int .i64 0] 0)).heap.size := by simp
set_option maxRecDepth 100000 in
set_option maxHeartbeats 2000000 in
theorem delete46_walk (g c : Nat) (ps : List P46) (sp : List Value) (pb : Addr) (f : Int) (w : World) (h1s : ones46 ps) (hnc : ps.length ≤ c) (hc : c ≤ 9223372036854775807) (hg : w.heap[g]? = some (.cells (cells46 ps ++ sp).toArray 46 (0, 0))) (hsp : sp.length = (c - ps.length) * 2)
  (hF : ∀ W, w.grownBy W (some g) → Floor W pb f) :
  Calls Try.prog 39 #[.slice (some ⟨g, 0, none⟩) ps.length c, .func (.func 40) #[] #[.pointer (some pb)]] w fun e w' => ∃ m cur, e = .returned (.slice (some ⟨g, 0, none⟩) m c) ∧ m ≤ ps.length ∧ m = (ps.filter (over f)).length ∧
   w'.heap[g]? = some (.cells (List.toArray cur) 46 (0, 0)) ∧ cur.length = c * 2 ∧ cur.take (m * 2) = cells46 (ps.filter (over f)) ∧ w.grownBy w' (some g) := by
 have HG := hd hg
 have HS := hd hsp
 have HF := hd hF
 have H1 := hd h1s
 clear hg hsp hF h1s
 obtain ⟨n, hn⟩ : ∃ n, ps.length = n := ⟨_, rfl⟩
 have HN := hd hn
 have IX := hd (index46_any g c ps sp pb f w (by omega) HG.out (HF.out _ (grownBy_refl _ _)))
 rw [hn] at IX hnc HS ⊢
 clear hn
 have HU := hd upto46_any
 go_enter Try.func39, Try.ntmps39
 go_wp2_with fail
 refine IX.out.mono ?_
 rintro e w1 ⟨r, rfl, hr, hb1⟩
 have HB1 := hd hb1
 clear hb1
 rcases hr with ⟨rfl, hall⟩ | ⟨j, rfl, hj, hk, hov⟩
 ·have HALL := hd hall
  clear hall
  go_wp2
  go_ret
  refine ⟨n, cells46 ps ++ sp, rfl, Nat.le_refl _, by rw [HALL.out, HN.out], by rw [HB1.out.block g (blk_lt HG.out)]; exact HG.out, ?_, ?_, grown_of_below HB1.out _⟩
  ·rw [List.length_append, cells46_length, HN.out, HS.out]
   omega
  ·rw [HALL.out, List.take_append_of_le_length (by rw [cells46_length, HN.out]; exact Nat.le_refl _), List.take_of_length_le (by rw [cells46_length, HN.out]; exact Nat.le_refl _)]
 ·have hm1 : ¬ ((j : Int) = -1) := by omega
  have hm2 : ((j : Int) == -1) = false := by simp
  have HK := hd hk
  have HOV := hd hov
  clear hk hov
  go_wp2
  go_loopw [5, 6] (fun i k wr => ∃ (a q : Nat) (m : List P46), a < q ∧ q ≤ n ∧ i = .int .i64 (a : Int) ∧ k = .int .i64 (q : Int) ∧ m.length = n ∧ Hd (m.take a = (ps.take q).filter (over f)) ∧ Hd (∀ t, q ≤ t → m.getD t zp46 = ps.getD t zp46) ∧
     Hd (ones46 m) ∧ Hd (wr.heap[g]? = some (.cells (cells46 m ++ sp).toArray 46 (0, 0))) ∧ Hd (w.grownBy wr (some g))) (fun _ k _ => n - (intOf k).toNat)
  case atStart => exact ⟨j, j + 1, ps, by omega, by have := HN.out; omega, rfl, by go_num, HN.out, hd (by rw [filter_take (by have := HN.out; omega), HK.out, HOV.out]; simp), hd (fun _ _ => rfl), H1, hd (by rw [HB1.out.block g (blk_lt HG.out)]; exact HG.out), hd (grown_of_below HB1.out _)⟩
  case round =>
   obtain ⟨a, q, m, haq, hqn, rfl, rfl, hml, HM, HT, HO, HW, HR⟩ := hrel
   have HML := hd hml
   clear hml
   by_cases hlt2 : q < n
   ·have hq1 : (q : Int) < (n : Int) := by omega
    obtain ⟨hb0, hb1⟩ := row46_get HW.out q (by rw [HML.out]; exact hlt2)
    rw [HT.out _ (Nat.le_refl _)] at hb0 hb1
    have FT := hd (filter_take (f := f) (ps := ps) (j := q) (by rw [HN.out]; exact hlt2))
    obtain ⟨x, hx⟩ : ∃ x, ps.getD q zp46 = x := ⟨_, rfl⟩
    rw [hx] at hb0 hb1 FT
    obtain ⟨A', n', c', hx1⟩ := H1.out x (by rw [← hx, List.getD_eq_getElem?_getD, List.getElem?_eq_getElem (by rw [HN.out]; exact hlt2)]; exact List.getElem_mem _)
    obtain ⟨x1, x2⟩ := x
    have hx1 : x2 = .slice A' n' c' := hx1
    subst hx1
    replace hb0 : wr.cell? ⟨g, q * 2, none⟩ = some (.int .i64 x1.f0) := hb0
    replace hb1 : wr.cell? ⟨g, q * 2 + 1, none⟩ = some (.slice A' n' c') := hb1
    have HX := hd hx
    clear hx
    have GA : Hd (w.grownBy (wr.alloc (.cells #[.int .i64 x1.f0, .slice A' n' c'] 46)) (some g)) := hd (grownBy_trans HR.out (grown_of_below (below_alloc (Below.refl _ _) _) _))
    go_wp2_with fail
    refine (HU.out (x1, .slice A' n' c') pb f _ (HF.out _ GA.out)).mono ?_
    rintro e w2 ⟨rfl, hb2⟩
    have HR2 : Hd (w.grownBy w2 (some g)) := hd (grownBy_trans GA.out (grown_of_below hb2 _))
    have hgW : (wr.alloc (.cells #[.int .i64 x1.f0, .slice A' n' c'] 46)).heap[g]? = some (.cells (cells46 m ++ sp).toArray 46 (0, 0)) := by
     rw [(below_alloc (Below.refl wr.heap.size _) _).block g (blk_lt HW.out)]
     exact HW.out
    have HW2 : Hd (w2.heap[g]? = some (.cells (cells46 m ++ sp).toArray 46 (0, 0))) := hd (by rw [hb2.block g (blk_lt hgW)]; exact hgW)
    have hk0 : w2.cell? ⟨wr.heap.size, 0, none⟩ = some (.int .i64 x1.f0) := pw_cell_below hb2 (by go_simp)
    have hk1 : w2.cell? ⟨wr.heap.size, 1, none⟩ = some (.slice A' n' c') := pw_cell_below hb2 (by go_simp)
    clear hb2 hgW hb0 hb1
    by_cases hle : x1.f0 ≤ f
    ·have hov : over f (x1, .slice A' n' c') = false := by unfold over; simpa using hle
     have HOV2 := hd hov
     clear hov hk0 hk1
     have hle' : decide (x1.f0 ≤ f) = true := by simpa using hle
     go_wp2
     go_roundw
     case rel => exact ⟨a, q + 1, m, by omega, by omega, rfl, by go_num, HML.out, hd (by rw [FT.out, HOV2.out, HM.out]; simp), hd (fun t ht => HT.out t (by omega)), HO, HW2, HR2⟩
     case measure => simp [intOf]; omega
    ·have hov : over f (x1, .slice A' n' c') = true := by unfold over; simpa using hle
     have HOV2 := hd hov
     clear hov
     have hle' : decide (x1.f0 ≤ f) = false := by simpa using hle
     have han : a < n := by omega
     obtain ⟨hs0, hs1⟩ := row46_get HW2.out a (by rw [HML.out]; exact han)
     have hf0 : w2.frozen? ⟨g, a * 2, none⟩ = false := frozen_block HW2.out
     have hf1 : w2.frozen? ⟨g, a * 2 + 1, none⟩ = false := frozen_block HW2.out
     go_wp2
     go_roundw
     case rel => exact ⟨a + 1, q + 1, m.set a (x1, .slice A' n' c'), by omega, by omega, by go_num, by go_num, by rw [List.length_set]; exact HML.out, hd (by rw [FT.out, if_pos HOV2.out, take_snoc_p (by rw [List.length_set, HML.out]; omega), List.take_set_of_le (Nat.le_refl a), HM.out]; simp [List.getD_eq_getElem?_getD, HML.out, han]), hd (fun t ht => by rw [← HT.out t (by omega)]; simp [List.getD_eq_getElem?_getD, show ¬ a = t by omega]), hd (fun p hp => (List.mem_or_eq_of_mem_set hp).elim (HO.out p) (fun e => by rw [e]; exact ⟨_, _, _, rfl⟩)), hd (row46_set HW2.out a (x1, .slice A' n' c') (by rw [HML.out]; omega)), hd (grownBy_set (grownBy_set HR2.out _ rfl _) _ rfl _)⟩
     case measure => simp [intOf]; omega
   ·have hca : ¬ (c = a) := by omega
    have han : a ≤ n := by omega
    have HFI : Hd (a * 2 + (n - a) * 2 ≤ (cells46 m ++ sp).length) := hd (by rw [List.length_append, cells46_length, HML.out]; omega)
    go_wp2_with (refine wpList_clear_k rfl _ 42 rfl 46 (.agg #[.int .i64 0, .slice none 0 0]) 2 Try.underlying42 (fun W => by kernel_rfl) rfl (by decide) g (a * 2) (n - a) (c - a) rfl (cells46 m ++ sp) 46 HW.out HFI.out ?_; intro w3 zs Z1 Z2 Z3)
    go_wp2
    go_ret
    have e1 : ps.filter (over f) = m.take a := by
     rw [HM.out, show q = ps.length by rw [HN.out]; omega, List.take_length]
    have e2 : (splice (cells46 m ++ sp) (a * 2) zs).length = c * 2 := by
     rw [length_splice _ _ _ (by rw [Z2.out]; exact HFI.out), List.length_append, cells46_length, HML.out, HS.out]
     omega
    refine ⟨a, splice (cells46 m ++ sp) (a * 2) zs, rfl, han, ?_, Z1.out, e2, ?_, grownBy_trans HR.out Z3.out⟩
    ·rw [e1, List.length_take, HML.out]
     omega
    ·rw [e1, ← cells46_take]
     have h1 := cells46_length m
     have h2 := HML.out
     unfold splice
     rw [List.take_append_of_le_length (by rw [List.length_take, List.length_append]; omega), List.take_take, Nat.min_self, List.take_append_of_le_length (by omega)]
/-- slices.DeleteFunc of those up to the floor, on a row of the call's own. -/
theorem delete46_any (base : Nat) (ok : Nat → Prop) (v : Value) (xs : List S46) (pb : Addr) (f : Int) (w : World) (h : Kd.R k46 46 w base ok v xs) (hF : ∀ W, w.grownBy W v.ownBlock → Floor W pb f) :
  Calls Try.prog 39 #[v, .func (.func 40) #[] #[.pointer (some pb)]] w fun e w' => ∃ v', e = .returned v' ∧ Kd.R k46 46 w' base ok v' (xs.filter fun x => decide (f < x.f0)) ∧ w.grownBy w' v.ownBlock ∧ v'.ownBlock = v.ownBlock := by
 obtain ⟨ps, rfl, hone, h0, ho, hr⟩ := R46_open h
 rcases Nat.eq_zero_or_pos ps.length with hz | hp
 ·obtain rfl : ps = [] := List.eq_nil_of_length_eq_zero hz
  obtain ⟨A, c, rfl⟩ := Kd.R_slice h
  have H := hd h
  clear h h0 ho hr hone hF
  have IX := hd (index46_nil A c pb w)
  show Calls Try.prog 39 #[.slice A 0 c, .func (.func 40) #[] #[.pointer (some pb)]] w _
  go_enter Try.func39, Try.ntmps39
  go_wp2_with fail
  refine IX.out.mono ?_
  rintro e w1 ⟨rfl, hb1⟩
  have HB1 := hd hb1
  clear hb1
  go_wp2
  go_ret
  exact ⟨_, rfl, Kd.R_below H.out HB1.out, grown_of_below HB1.out _, rfl⟩
 ·obtain ⟨g, cap, cur, rfl, hbg, hg, hnc, hcm, hcl, htk⟩ := own_open ho hp
  have hcur : cur = cells46 ps ++ cur.drop (ps.length * 2) := by rw [← htk, List.take_append_drop]
  rw [hcur] at hg
  have hob : (Value.slice (some ⟨g, 0, none⟩) ps.length cap).ownBlock = some g := rfl
  refine (delete46_walk g cap ps (cur.drop (ps.length * 2)) pb f w hone hnc (by unfold maxLen at hcm; omega) hg (by rw [List.length_drop, hcl]; omega) (fun W hW => hF W hW)).mono ?_
  rintro e w' ⟨m, cur', rfl, hmn, hm, hg', hcl', ht, hgr⟩
  refine ⟨_, rfl, ?_, hgr, rfl⟩
  have e1 : (ps.map Prod.fst).filter (fun x => decide (f < x.f0)) = (ps.filter (over f)).map Prod.fst := by rw [List.filter_map]; rfl
  rw [e1]
  refine R46_shut h0 (by rw [← hm]; exact own_shut hbg hg' (by omega) hcm hcl' ht) fun p hp => ?_
  exact Kd.R_grown (hr p ((List.mem_filter.1 hp).1)) hgr (fun k hk => hk.2)
end Go.Proofs.Ytafnjlgdjhegaaa.Pr
end
section
namespace Go.Proofs.Ytafnjlgdjhegaaa.Pr
open Go.RowKit Go.Proofs.YtafnjlgdjhegaaaW.PrintWords Go.Proofs.YtafnjlgdjhegaaaW.PrintLast Go.Proofs.YtafnjlgdjhegaaaW.PrintMore Go.Proofs.YtafnjlgdjhegaaaG
set_option linter.unusedVariables false
set_option linter.unusedSimpArgs false
/-- Is a client wrong in itself? -/
def wrongB (c : S44) : Bool := decide (c.f1 < 0) || decide (4611686018427387904 < c.f1) || decide (8 < c.f2.length) || !rises c.f1 (c.f2.map S46.f0)
def rightB (l : List S44) : Bool := decide (l.length ≤ 16) && rises 0 (l.map S44.f0) && !l.any wrongB
def session_Right.f (l0 : List S44) : Option Bool := some (rightB l0)
set_option maxHeartbeats 400000 in
theorem wrong_any (x : S44) (A2 : Option Addr) (c2 : Nat) (w : World) (hr : Kd.C k46 w A2 x.f2.length x.f2) :
  Calls Try.prog 47 #[.agg #[.int .i64 x.f0, .int .i64 x.f1, .slice A2 x.f2.length c2]] w fun e w' => e = .returned (.bool (wrongB x)) ∧ Below w.heap.size w w' := by
 have HB : Hd (Below w.heap.size w (w.alloc (.cells #[.int .i64 x.f0, .int .i64 x.f1, .slice A2 x.f2.length c2] 44))) := hd (below_alloc (Below.refl _ _) _)
 have HR := hd (Kd.C_below hr HB.out)
 clear hr
 by_cases h1 : x.f1 < 0
 ·have e : wrongB x = true := by unfold wrongB; rw [decide_eq_true h1]; rfl
  rw [e]
  go_enter Try.func47, Try.ntmps47
  go_wp2
  go_ret
  exact ⟨rfl, HB.out⟩
 ·by_cases h2 : 4611686018427387904 < x.f1
  ·have e : wrongB x = true := by unfold wrongB; rw [decide_eq_true h2, Bool.or_true]; rfl
   rw [e]
   go_enter Try.func47, Try.ntmps47
   go_wp2
   go_ret
   exact ⟨rfl, HB.out⟩
  ·by_cases h3 : 8 < x.f2.length
   ·have e : wrongB x = true := by unfold wrongB; rw [decide_eq_true h3, Bool.or_true]; rfl
    rw [e]
    have h3' : (8 : Int) < (x.f2.length : Int) := by omega
    go_enter Try.func47, Try.ntmps47
    go_wp2
    go_ret
    exact ⟨rfl, HB.out⟩
   ·have e : wrongB x = !rises x.f1 (x.f2.map S46.f0) := by unfold wrongB; rw [decide_eq_false h1, decide_eq_false h2, decide_eq_false h3]; rfl
    rw [e]
    have h3' : ¬ (8 : Int) < (x.f2.length : Int) := by omega
    go_enter Try.func47, Try.ntmps47
    go_wp2_with fail
    refine (rises46_any A2 c2 x.f2 x.f1 _ HR.out).mono ?_
    rintro e w1 ⟨rfl, hb1⟩
    have HB1 : Hd (Below w.heap.size w w1) := hd (below_then HB.out (by simp) hb1)
    clear hb1
    go_wp2
    go_ret
    exact ⟨rfl, HB1.out⟩
set_option maxHeartbeats 400000 in
theorem index44_any (A : Option Addr) (c : Nat) (l : List S44) (w : World) (hr : Kd.C k44 w A l.length l) :
  Calls Try.prog 67 #[.slice A l.length c, .func (.func 47) #[] #[]] w fun e w' => ∃ r : Int, e = .returned (.int .i64 r) ∧ (0 ≤ r ↔ l.any wrongB = true) ∧ Below w.heap.size w w' := by
 have hlen : l.length ≤ 9223372036854775807 := hr.2.1
 have HR := hd hr
 clear hr
 go_enter Try.func67, Try.ntmps67
 go_wp2
 go_loopw [8] (fun i wr => ∃ j : Nat, j ≤ l.length ∧ i = .int .i64 (j : Int) ∧ Hd ((l.take j).any wrongB = false) ∧ Hd (Below w.heap.size w wr)) (fun i _ => l.length - (intOf i).toNat)
 case atStart => exact ⟨0, by omega, rfl, hd (by simp), hd (Below.refl _ _)⟩
 case round =>
  obtain ⟨j, hj, rfl, HK, HB⟩ := hrel
  by_cases hlt : j < l.length
  ·obtain ⟨ad, A2, c2, rfl, h0, h1, h2, h3, h4⟩ := at_T44 (Kd.C_below HR.out HB.out) (j : Int) (by omega) (by omega)
   obtain ⟨x, hx⟩ : ∃ x, rd_T44 l (j : Int) = x := ⟨_, rfl⟩
   rw [Int.toNat_natCast] at h0 h1 h2
   rw [hx] at h0 h1 h2 h3 h4
   have HX : Hd (l[j] = x) := hd (by rw [← hx]; unfold rd_T44; simp [List.getD_eq_getElem?_getD, hlt])
   clear hx
   have hj' : (j : Int) < (l.length : Int) := by omega
   have H4 := hd h4
   clear h3 h4
   go_wp2_with fail
   refine (wrong_any x A2 c2 wr H4.out).mono ?_
   rintro e w1 ⟨rfl, hb1⟩
   have HB1 : Hd (Below w.heap.size w w1) := hd (below_then HB.out HB.out.size hb1)
   clear hb1 h0 h1 h2
   cases hw : wrongB x with
   | true =>
    go_wp2
    go_ret
    refine ⟨(j : Int), rfl, ⟨fun _ => ?_, fun _ => by omega⟩, HB1.out⟩
    rw [List.any_eq_true]
    exact ⟨x, by rw [← HX.out]; exact List.getElem_mem _, hw⟩
   | false =>
    go_wp2
    go_roundw
    case rel => exact ⟨j + 1, by omega, by go_num, hd (by rw [List.take_succ_eq_append_getElem hlt, List.any_append, HK.out, HX.out]; simp [hw]), HB1⟩
    case measure => simp [intOf]; omega
  ·go_wp2
   go_ret
   have hk := HK.out
   rw [List.take_of_length_le (by omega)] at hk
   exact ⟨-1, rfl, by rw [hk]; simp, HB.out⟩
set_option maxHeartbeats 400000 in
theorem contains44_any (A : Option Addr) (c : Nat) (l : List S44) (w : World) (hr : Kd.C k44 w A l.length l) :
  Calls Try.prog 50 #[.slice A l.length c, .func (.func 47) #[] #[]] w fun e w' => e = .returned (.bool (l.any wrongB)) ∧ Below w.heap.size w w' := by
 have HR := hd hr
 clear hr
 go_enter Try.func50, Try.ntmps50
 go_wp2_with fail
 refine (index44_any A c l w HR.out).mono ?_
 rintro e w1 ⟨r, rfl, hrr, hb1⟩
 have HRR := hd hrr
 clear hrr
 go_wp2
 go_ret
 refine ⟨?_, hb1⟩
 have e : decide (0 ≤ r) = l.any wrongB := by rw [Bool.eq_iff_iff, ← HRR.out, decide_eq_true_eq]
 rw [← e]
 rfl
set_option maxHeartbeats 400000 in
theorem right_any (A : Option Addr) (c : Nat) (l : List S44) (w : World) (hr : Kd.C k44 w A l.length l) :
  Calls Try.prog 14 #[.slice A l.length c] w fun e w' => e = .returned (.bool (rightB l)) ∧ Below w.heap.size w w' := by
 have hlen : l.length ≤ 9223372036854775807 := hr.2.1
 have HR := hd hr
 clear hr
 by_cases h1 : l.length ≤ 16
 ·have h1' : (l.length : Int) ≤ 16 := by omega
  cases h2 : rises 0 (l.map S44.f0) with
  | false =>
   have e : rightB l = false := by unfold rightB; rw [h2, Bool.and_false]; rfl
   rw [e]
   have H2 := hd h2
   clear h2
   go_enter Try.func14, Try.ntmps14
   go_wp2_with fail
   refine (rises44_any A c l 0 w HR.out).mono ?_
   rintro e w1 ⟨rfl, hb1⟩
   rw [H2.out]
   go_wp2
   go_ret
   exact ⟨rfl, hb1⟩
  | true =>
   have e : rightB l = !l.any wrongB := by unfold rightB; rw [h2, decide_eq_true h1]; rfl
   rw [e]
   have H2 := hd h2
   clear h2
   go_enter Try.func14, Try.ntmps14
   go_wp2_with fail
   refine (rises44_any A c l 0 w HR.out).mono ?_
   rintro e w1 ⟨rfl, hb1⟩
   have HB1 := hd hb1
   clear hb1
   rw [H2.out]
   go_wp2_with fail
   refine (contains44_any A c l w1 (Kd.C_below HR.out HB1.out)).mono ?_
   rintro e w2 ⟨rfl, hb2⟩
   obtain ⟨b, hb⟩ : ∃ b, l.any wrongB = b := ⟨_, rfl⟩
   simp only [hb]
   go_wp2
   go_ret
   exact ⟨by rw [hb]; rfl, below_then HB1.out HB1.out.size hb2⟩
 ·have e : rightB l = false := by unfold rightB; rw [decide_eq_false h1]; rfl
  have h1' : ¬ (l.length : Int) ≤ 16 := by omega
  rw [e]
  go_enter Try.func14, Try.ntmps14
  go_wp2
  go_ret
  exact ⟨rfl, Below.refl _ _⟩
theorem session_Right.calls (A0 : Option Addr) (c0 : Nat) (l0 : List S44) (r : Bool) (w : World) (hr0 : Kd.C k44 w A0 l0.length l0) (hc0 : l0.length ≤ c0) (h : session_Right.f l0 = some r) :
  Calls Try.prog 14 #[.slice A0 l0.length c0] w fun e w' => e = .returned (.bool r) ∧ Below w.heap.size w w' := by
 cases h
 exact right_any A0 c0 l0 w hr0
end Go.Proofs.Ytafnjlgdjhegaaa.Pr
end
section
namespace Go.Proofs.Ytafnjlgdjhegaaa.Pr
open Go.RowKit Go.Proofs.YtafnjlgdjhegaaaW.PrintWords Go.Proofs.YtafnjlgdjhegaaaW.PrintLast Go.Proofs.YtafnjlgdjhegaaaW.PrintMore Go.Proofs.YtafnjlgdjhegaaaG
attribute [local go_sem] max2_int min2_int max_two min_two
set_option linter.unusedVariables false
set_option linter.unusedSimpArgs false
/-- How many numbers are below one. -/
def under (T : List Int) (n : Int) : Nat := (T.takeWhile fun x => decide (x < n)).length
def hasN (T : List Int) (n : Int) : Bool := decide (under T n < T.length) && decide (T.getD (under T n) 0 = n)
theorem under_of {T : List Int} {n : Int} {r : Nat} (hr : r ≤ T.length) (h1 : ∀ i, i < r → T.getD i 0 < n) (h2 : ∀ i, r ≤ i → i < T.length → n ≤ T.getD i 0) : under T n = r := by
 induction T generalizing r with
 | nil => simp at hr; subst hr; rfl
 | cons a T ih =>
  unfold under
  cases r with
  | zero =>
   have := h2 0 (by omega) (by simp)
   simp at this
   rw [List.takeWhile_cons_of_neg (by simpa using this)]
   rfl
  | succ r =>
   have h0 := h1 0 (by omega)
   simp at h0
   rw [List.takeWhile_cons_of_pos (by simpa using h0)]
   have := ih (r := r) (by simpa using hr) (fun i hi => by simpa using h1 (i + 1) (by omega)) (fun i hi hn => by simpa using h2 (i + 1) (by omega) (by simpa using hn))
   unfold under at this
   simp [this]
theorem found_under {T : List Int} {n : Int} {i : Nat} {b : Bool} (h : Found T n i b) (hr : rises 0 T = true) (hn : 1 ≤ n) : i = under T n ∧ b = hasN T n := by
 obtain ⟨h1, h2, h3⟩ := h
 obtain ⟨h4, h5⟩ := h3 hr hn
 have e := under_of h1 h4 h5
 refine ⟨e.symm, ?_⟩
 unfold hasN
 rw [e, Bool.eq_iff_iff, h2]
 simp
theorem reps_one {α : Type} {d : Kd α} {w : World} {base : Nat} {ok : Nat → Prop} {xs : List α} {inner : List Value} (h : Reps (d.M w base ok) d.sz xs inner) : ∀ u ∈ inner, u.oneCell' = true := by
 intro u hu
 obtain ⟨j, hj, rfl⟩ := List.mem_iff_getElem.1 hu
 obtain ⟨hl, hr⟩ := h
 rcases Nat.eq_zero_or_pos d.sz with hz | hz
 ·rw [hl, hz] at hj
  omega
 ·have hlt : j / d.sz < xs.length := by
   rw [Nat.div_lt_iff_lt_mul hz, ← hl]
   exact hj
  have h2 := hr (j / d.sz) _ (List.getElem?_eq_getElem hlt)
  refine d.K_one (d.K_of_M h2) _ ?_
  have e : inner[j] = ((inner.drop (j / d.sz * d.sz)).take d.sz)[j % d.sz]'(by
   rw [List.length_take, List.length_drop]
   have h3 := Nat.div_add_mod j d.sz
   have h4 := Nat.mod_lt j hz
   have h5 : (j / d.sz + 1) * d.sz ≤ xs.length * d.sz := Nat.mul_le_mul_right _ hlt
   rw [Nat.add_mul, Nat.one_mul] at h5
   rw [Nat.mul_comm] at h3
   omega) := by
   rw [List.getElem_take, List.getElem_drop]
   congr 1
   rw [Nat.mul_comm]
   exact (Nat.div_add_mod j d.sz).symm
  rw [e]
  exact List.getElem_mem _
def lookArgs (cl rq ak : Int) : Prop := 1 ≤ cl ∧ cl ≤ 4611686018427387904 ∧ 1 ≤ rq ∧ rq ≤ 4611686018427387904 ∧ 0 ≤ ak ∧ ak < rq
/-- The clients, with one that is known. -/
def withCl (l : List S44) (cl : Int) : List S44 := if hasN (l.map S44.f0) cl = true then l else l.take (under (l.map S44.f0) cl) ++ [⟨cl, 0, []⟩] ++ l.drop (under (l.map S44.f0) cl)
def client' (c : S44) (ak : Int) : S44 := ⟨c.f0, mx c.f1 ak, c.f2.filter fun x => decide (mx c.f1 ak < x.f0)⟩
def lookTail (L : List S44) (i : Nat) (rq ak : Int) : List S44 × Int × List Int × Int :=
 let c := client' (L.getD i z44) ak
 if rq ≤ c.f1 then (L.set i c, 3, [], 0)
 else if hasN (c.f2.map S46.f0) rq = true then (L.set i c, 2, (c.f2.getD (under (c.f2.map S46.f0) rq) z46).f1, 0)
 else if 8 ≤ c.f2.length then (L.set i c, 4, [], 0) else (L.set i c, 1, [], 0)
def lookGood (l : List S44) (cl rq ak : Int) : List S44 × Int × List Int × Int :=
 if hasN (l.map S44.f0) cl = false ∧ 16 ≤ l.length then ([], 0, [], 5) else lookTail (withCl l cl) (under (l.map S44.f0) cl) rq ak
def session_Look.T11 : Bool × List (List Nat × List Nat) := (true, [([], []), ([], []), ([1], [1]), ([2], [2]), ([3], [3]), ([], []), ([4, 5], [4, 5]), ([0, 0, 1, 2, 3, 4, 5, 6], [0]), ([7, 0, 1, 2, 3, 4, 5, 6], [7]), ([8, 6, 6, 0, 1, 2, 3, 4, 5, 6], [6, 8])])
def session_Look.B11 : List Nat := [0, 0, 2, 6, 14, 0, 62, 127, 255, 511]
theorem session_Look.tab11 : rtab .any (opsOf Try.f10 11) = session_Look.T11 := by kernel_rfl
theorem session_Look.bits11 : waitsOk session_Look.T11.2 session_Look.B11 = true := by kernel_rfl
set_option maxRecDepth 100000 in
set_option maxHeartbeats 2000000 in
theorem look_good (A : Option Addr) (c : Nat) (l : List S44) (cl rq ak : Int) (w : World) (hr : Kd.C k44 w A l.length l) (hright : rightB l = true) (ha : lookArgs cl rq ak) (hs : small44 l) (hlc : l.length ≤ c) :
  Calls Try.prog 10 #[.slice A l.length c, .int .i64 cl, .int .i64 rq, .int .i64 ak] w fun e w' => ∃ v0_ v2_ : Value, e = .returned (.tuple #[v0_, .int .u8 (lookGood l cl rq ak).2.1, v2_, .int .i64 (lookGood l cl rq ak).2.2.2]) ∧
   Kd.R k44 44 w' w.heap.size (fun _ => True) v0_ (lookGood l cl rq ak).1 ∧ Kd.R (Kd.int .u8) 5 w' w.heap.size (fun k_ => some k_ ≠ v0_.ownBlock) v2_ (lookGood l cl rq ak).2.2.1 ∧ Below w.heap.size w w' := by
 have HR := hd hr
 have HRI := hd hright
 have HS := hd hs
 have HA := hd ha
 obtain ⟨a1, a2, a3, a4, a5, a6⟩ := ha
 have b1 : decide (cl < 1) = false := by simp; omega
 have b2 : decide (4611686018427387904 < cl) = false := by simp; omega
 have b3 : decide (rq < 1) = false := by simp; omega
 have b4 : decide (4611686018427387904 < rq) = false := by simp; omega
 have b5 : decide (ak < 0) = false := by simp; omega
 have b6 : decide (rq ≤ ak) = false := by simp; omega
 clear hr hright hs a1 a2 a3 a4 a5 a6
 obtain ⟨k, hk⟩ := Ev.rounds (copied_ev l HS.out)
 have HK := hd hk
 clear hk
 have HL16 : Hd (l.length ≤ 16 ∧ rises 0 (l.map S44.f0) = true ∧ l.any wrongB = false) := hd (by have := HRI.out; unfold rightB at this; simpa [and_assoc] using this)
 go_enter Try.func10, Try.ntmps10
 go_wp2_with fail
 refine (right_any A c l w HR.out).mono ?_
 rintro e w1 ⟨rfl, hb1⟩
 have HB1 := hd hb1
 clear hb1
 rw [HRI.out]
 go_wp2_with fail
 refine (session_copied.calls k A c l l w1 (Kd.C_below HR.out HB1.out) hlc HK.out).mono ?_
 rintro e w2 ⟨v, rfl, hS, hb2⟩
 have HB2 : Hd (Below w.heap.size w w2) := hd (below_then HB1.out HB1.out.size hb2)
 have HS2 : Hd (Kd.S k44 44 w2 w.heap.size (fun _ => True) v l) := hd (Kd.S_lower hS HB1.out.size)
 clear hS hb2
 obtain ⟨A2, c2, rfl⟩ := Kd.S_slice HS2.out
 have HX : Hd (∀ x ∈ l.map S44.f0, i64 x) := hd (fun x hx => by
  have := rises_mem HL16.out.2.1 x hx
  unfold i64
  omega)
 have HCL : Hd (i64 cl) := hd (by obtain ⟨h1, h2, _⟩ := HA.out; unfold i64; omega)
 go_wp2_with fail
 refine (place44_any A2 c2 l cl w2 (Kd.S_reads' HS2.out).2.2 HX.out HCL.out).mono ?_
 rintro e w3 ⟨i, b, rfl, hf, hb3⟩
 obtain ⟨rfl, rfl⟩ := found_under hf HL16.out.2.1 HA.out.1
 have HF := hd hf
 clear hf
 have HB3 : Hd (Below w.heap.size w w3) := hd (below_then HB2.out HB2.out.size hb3)
 have HS3 : Hd (Kd.S k44 44 w3 w.heap.size (fun _ => True) (.slice A2 l.length c2) l) := hd (Kd.S_below HS2.out hb3)
 clear hb3 HS2
 obtain ⟨i, hi⟩ : ∃ i, under (l.map S44.f0) cl = i := ⟨_, rfl⟩
 obtain ⟨b, hbb⟩ : ∃ b, hasN (l.map S44.f0) cl = b := ⟨_, rfl⟩
 rw [hi, hbb] at HF ⊢
 have HI := hd hi
 have HBB := hd hbb
 have hil : i ≤ l.length := by have := HF.out.1; rwa [List.length_map] at this
 clear hi hbb
 go_upto_if 55 with (fail)
 go_cut [12] (fun v12 wc => ∃ (L : List S44) (A3 : Option Addr) (c3 : Nat), v12 = .slice A3 L.length c3 ∧ Hd (i < L.length) ∧ Hd (Kd.S k44 44 wc w.heap.size (fun _ => True) (.slice A3 L.length c3) L) ∧ Hd (Below w.heap.size w wc) ∧ Hd (lookGood l cl rq ak = lookTail L i rq ak) ∧ Hd (wrongB (L.getD i z44) = false ∧ small46 (L.getD i z44).f2))
 case first =>
  cases b with
  | true =>
   go_wp2_with fail
   go_meet
   case rel => exact ⟨l, A2, c2, rfl, hd (by have := HBB.out; unfold hasN at this; rw [HI.out] at this; simp only [Bool.and_eq_true, decide_eq_true_eq, List.length_map] at this; exact this.1), HS3, HB3, hd (by unfold lookGood withCl; rw [HBB.out, HI.out]; simp), hd (by
    have hlt : i < l.length := by have := HBB.out; unfold hasN at this; rw [HI.out] at this; simp only [Bool.and_eq_true, decide_eq_true_eq, List.length_map] at this; exact this.1
    rw [getD44_at l i hlt]
    exact ⟨by simpa using List.any_eq_false.1 HL16.out.2.2 _ (List.getElem_mem hlt), HS.out.2 _ (List.getElem_mem hlt)⟩)⟩
  | false =>
   by_cases h16 : 16 ≤ l.length
   ·have h16' : (16 : Int) ≤ (l.length : Int) := by omega
    have e : lookGood l cl rq ak = ([], 0, [], 5) := by unfold lookGood; rw [HBB.out, if_pos ⟨rfl, h16⟩]
    have HE := hd e
    clear e
    go_wp2_with fail
    refine bodyPost_ret (results_list (rs := [.tmp 8, .tmp 9, .tmp 10, .tmp 11]) rfl (by simp) (.tmp (.tmp (.tmp (.tmp .nil))))) rfl ?_
    rw [HE.out]
    exact ⟨_, _, rfl, Kd.R_nil _ _ _ _ _, Kd.R_nil _ _ _ _ _, HB3.out⟩
   ·have h16' : ¬ (16 : Int) ≤ (l.length : Int) := by omega
    have HW : Hd (Below w.heap.size w (w3.alloc (.cells #[.int .i64 cl, .int .i64 0, .slice none 0 0] 44))) := hd (below_alloc HB3.out _)
    have HSW := Kd.S_alloc HS3.out (.cells #[.int .i64 cl, .int .i64 0, .slice none 0 0] 44)
    obtain ⟨f, h0, inner, ho, hrp⟩ := HSW
    rw [List.length_zipIdx] at ho
    have hone : ∀ u ∈ inner, u.oneCell' = true := reps_one hrp
    have hins := Ins44.ins_any (w3.alloc (.cells #[.int .i64 cl, .int .i64 0, .slice none 0 0] 44)) w.heap.size l.length i (.slice A2 l.length c2) inner [.int .i64 cl, .int .i64 0, .slice none 0 0] ho hil ⟨w3.heap.size, 0, none⟩ 1 rfl
     (fun j u hj => by
      rw [add_off, Nat.zero_add, World.cell?_alloc_new]
      simpa using hj)
     hone (by intro u hu; simp at hu; rcases hu with rfl | rfl | rfl <;> rfl) (by have := HB3.out.size; simp; omega) (by omega)
     (fun k hk => by
      have := Kd.S_lt HS3.out k hk
      show w3.heap.size ≠ k
      omega) 44 3 (by unfold World.shape?; rw [Go.heap_alloc_new]; rfl) (World.frozen?_alloc_at _ _ _ _ rfl) (World.frozen?_alloc_at _ _ _ _ rfl)
    have HINS := hd hins
    have H0 := hd h0
    have HO := hd ho
    have HRP := hd hrp
    clear hins h0 ho hrp hone
    go_wp2_with fail
    refine HINS.out.mono ?_
    rintro e w4 ⟨v', rfl, ho', hg', hat'⟩
    have hS4 := S_insert (x := (⟨cl, 0, []⟩ : S44)) H0.out HO.out HRP.out hil (k44_mkM w4 w.heap.size _ (⟨cl, 0, []⟩ : S44) (Kd.R_nil _ _ _ _ _)) hg' hat' (fun _ _ => trivial) ho'
    have HB4 : Hd (Below w.heap.size w w4) := hd (HW.out.grown hg' HW.out.size (own_base HO.out))
    obtain ⟨A4, c4, rfl⟩ := Kd.S_slice hS4
    have HS4 := hd hS4
    clear ho' hg' hat' hS4
    go_wp2_with fail
    go_meet
    case rel => exact ⟨_, A4, c4, by congr 1; simp; omega, hd (by simp; omega), HS4, HB4, hd (by unfold lookGood withCl; rw [HBB.out, HI.out, if_neg (by simp; omega)]; simp), hd (by
     rw [show (l.take i ++ [(⟨cl, 0, []⟩ : S44)] ++ l.drop i).getD i z44 = ⟨cl, 0, []⟩ by rw [List.getD_eq_getElem?_getD, ins_getElem? l _ i i hil, if_neg (by omega), if_pos rfl]; rfl]
     exact ⟨by simp [wrongB, rises], by simp, by simp⟩)⟩
 case rest =>
  obtain ⟨L, A3, c3, rfl, HIL, HSL, HBW, HLK, HWR⟩ := hcut
  clear HF HI HBB HS3 HB3 HB2 HB1 HX HCL HR HRI HS HK HL16
  obtain ⟨g, cap, hv, hgb, hgl, cells, hcells⟩ := Kd.S_form HSL.out (by have := HIL.out; omega)
  injection hv with hv1 hv2 hv3
  subst hv1 hv3
  clear hv2
  obtain ⟨oki, cs, _, hM, hcc, hoki, hH⟩ := Kd.S_lend HSL.out z44 (i : Int) (by omega) (by have := HIL.out; omega)
  obtain ⟨x, hx⟩ : ∃ x, L.getD i z44 = x := ⟨_, rfl⟩
  rw [Int.toNat_natCast, hx] at hM
  rw [Int.toNat_natCast] at hcc
  obtain ⟨s, rfl, hRs⟩ := k44_openM hM
  obtain ⟨As, cs, rfl⟩ := Kd.R_slice hRs
  have HX := hd hx
  have e0 : wc.cell? ⟨g, i * 3, none⟩ = some (.int .i64 x.f0) := hcc 0 _ rfl
  have e1 : wc.cell? ⟨g, i * 3 + 1, none⟩ = some (.int .i64 x.f1) := hcc 1 _ rfl
  have e2 : wc.cell? ⟨g, i * 3 + 2, none⟩ = some (.slice As x.f2.length cs) := hcc 2 _ rfl
  have hfr : ∀ j, wc.frozen? ⟨g, j, none⟩ = false := fun j => frozen_block hcells
  have HFR := hd hfr
  have HH := hd hH
  have HRS := hd hRs
  have HOK := hd hoki
  have HGB := hd hgb
  have HGL := hd hgl
  have HCE := hd hcells
  have HCC := hd hcc
  clear hx hM hcc hH hRs hoki hgb hgl hcells hfr
  have hil2 : (i : Int) < (L.length : Int) := by have := HIL.out; omega
  go_wp2_with fail
  have f0 : (wc.alloc (.cells #[.pointer (some ⟨g, i * 3, none⟩)] 82)).cell? ⟨wc.heap.size, 0, none⟩ = some (.pointer (some ⟨g, i * 3, none⟩)) := by go_simp
  have f1 : (wc.alloc (.cells #[.pointer (some ⟨g, i * 3, none⟩)] 82)).cell? ⟨g, i * 3 + 1, none⟩ = some (.int .i64 x.f1) := pw_cell_below (below_alloc (Below.refl _ _) _) e1
  have HBA : Hd (Below wc.heap.size wc (wc.alloc (.cells #[.pointer (some ⟨g, i * 3, none⟩)] 82))) := hd (below_alloc (Below.refl _ _) _)
  obtain ⟨q, hq⟩ : ∃ q, wc.heap.size = q := ⟨_, rfl⟩
  rw [hq] at f0 ⊢
  have HQ := hd hq
  clear hq
  have HQB : Hd ((wc.alloc (.cells #[.pointer (some ⟨g, i * 3, none⟩)] 82)).heap[q]? = some (.cells #[.pointer (some ⟨g, i * 3, none⟩)] 82 (0, 0))) := hd (by rw [← HQ.out, Go.heap_alloc_new])
  generalize wc.alloc (.cells #[.pointer (some ⟨g, i * 3, none⟩)] 82) = W1 at f0 f1 HBA HQB ⊢
  clear e0 e1 e2
  go_still_tail 9, (by kernel_rfl)
  change wpList _ _ _ _ _ W1.drew
  obtain ⟨mm, hmm⟩ : ∃ mm, mx x.f1 ak = mm := ⟨_, rfl⟩
  rw [show (if x.f1 < ak then ak else x.f1) = mm from hmm]
  have HMM := hd hmm
  clear hmm
  have HBD : Hd (Below wc.heap.size wc W1.drew) := hd (below_drew1 HBA.out)
  have HM1 : Hd (k44.M W1.drew w.heap.size oki (⟨x.f0, mm, x.f2⟩ : S44) [.int .i64 x.f0, .int .i64 (mm), .slice As x.f2.length cs]) := hd (k44_mkM _ _ _ (⟨x.f0, mm, x.f2⟩ : S44) (Kd.R_below HRS.out HBD.out))
  refine Kd.H_store k44 (w0 := w) w.heap.size rfl rfl 3 (.tmp 76) (.tmp 74) rfl 44 (g := g) (n := L.length) (cap := c3) (o' := i * 3 + 1) (i : Int) 1 L (⟨x.f0, mm, x.f2⟩ : S44) (.int .i64 (mm)) [.int .i64 (mm)] [.int .i64 x.f0, .int .i64 x.f1, .slice As x.f2.length cs] (fun _ => True) oki oki rfl rfl rfl rfl (by kernel_rfl) (by intro q hq; simp at hq; rw [hq]; rfl) (Kd.H_below HH.out HBD.out) (by omega) hil2 (by show (1 : Nat) + 1 ≤ 3; omega) HM1.out (fun _ h => h) (below_then HBW.out HBW.out.size HBD.out) ?_
  intro w5 hS5 hb5 hg5
  obtain ⟨x1, hx1⟩ : ∃ x1 : S44, (⟨x.f0, mm, x.f2⟩ : S44) = x1 := ⟨_, rfl⟩
  rw [hx1] at hS5
  have HX1 := hd hx1
  clear HH HRS HOK HCE HFR HCC hx1 HM1
  have hqg : q ≠ g := by have := HQ.out; have := HGL.out; omega
  have HQ82 : Hd (w5.heap[q]? = some (.cells #[.pointer (some ⟨g, i * 3, none⟩)] 82 (0, 0))) := hd ((hg5.block q (blk_lt HQB.out) (by simpa using hqg)).trans HQB.out)
  have k0 : w5.cell? ⟨q, 0, none⟩ = some (.pointer (some ⟨g, i * 3, none⟩)) := hg5.cell (show W1.drew.cell? _ = _ from f0) (by simpa using hqg)
  obtain ⟨oki2, cs2, _, hM2, hcc2, hoki2, hH2⟩ := Kd.S_lend hS5 z44 (i : Int) (by omega) (by have := HIL.out; omega)
  have hget : (L.set i x1).getD i z44 = x1 := by have := HIL.out; simp [List.getD_eq_getElem?_getD, this]
  rw [Int.toNat_natCast] at hM2 hcc2 hS5 hH2
  rw [hget] at hM2
  obtain ⟨s2, rfl, hRs2⟩ := k44_openM hM2
  obtain ⟨As2, cs2, rfl⟩ := Kd.R_slice hRs2
  have k1 : w5.cell? ⟨g, i * 3 + 1, none⟩ = some (.int .i64 x1.f1) := hcc2 1 _ rfl
  have k2 : w5.cell? ⟨g, i * 3 + 2, none⟩ = some (.slice As2 x1.f2.length cs2) := hcc2 2 _ rfl
  have HH2 := hd hH2
  have HRS2 := hd hRs2
  have HOK2 := hd hoki2
  have HB5 := hd hb5
  clear hM2 hcc2 hS5 hH2 hRs2 hoki2 hget hb5 hg5 f0 f1 HBA HBD
  go_wp2_with fail
  have HR5 : Hd (Kd.R k46 46 w5.drew w.heap.size oki2 (.slice As2 x1.f2.length cs2) x1.f2) := hd (Kd.R_below HRS2.out (below_drew1 (Below.refl _ _)))
  have hq5 : q < w5.heap.size := World.block_lt_of_cell? w5 _ k0
  have hg5 : g < w5.heap.size := World.block_lt_of_cell? w5 _ k1
  have hsg : ∀ k, (Value.slice As2 x1.f2.length cs2).ownBlock = some k → k ≠ g := fun k hk => (HOK2.out k (HR5.out.1 k hk)).2
  have hsq : ∀ k, (Value.slice As2 x1.f2.length cs2).ownBlock = some k → k ≠ q := fun k hk => by
   obtain ⟨ce, hce⟩ := Kd.R_typed HR5.out k hk
   rintro rfl
   have hq82 := HQ82.out
   rw [show w5.drew.heap = w5.heap from rfl] at hce
   rw [hce] at hq82
   injection hq82 with hq82
   injection hq82 with _ hq82
   exact absurd hq82 (by decide)
  have HFL : Hd (∀ W, w5.drew.grownBy W (Value.slice As2 x1.f2.length cs2).ownBlock → Floor W ⟨q, 0, none⟩ x1.f1) := hd (fun W hW => ⟨⟨g, i * 3, none⟩, hW.cell (show w5.drew.cell? _ = _ from k0) (fun e => hsq q e.symm rfl), hW.cell (show w5.drew.cell? _ = _ from k1) (fun e => hsg g e.symm rfl)⟩)
  have k0d : w5.drew.cell? ⟨q, 0, none⟩ = some (.pointer (some ⟨g, i * 3, none⟩)) := k0
  have k2d : w5.drew.cell? ⟨g, i * 3 + 2, none⟩ = some (.slice As2 x1.f2.length cs2) := k2
  refine start_ (n := 10) (S := fun w' => w'.cell? ⟨q, 0, none⟩ = some (.pointer (some ⟨g, i * 3, none⟩))) (ds := [9]) #[false, false, false, false, false, false, false, false, false, false] (by kernel_rfl) rfl rfl k0d (fun hHeld => ?_)
  refine with_tabW session_Look.tab11 session_Look.bits11 (fun HT_ HW_ => ?_)
  refine take_ (i := 0) (N := some 77) (v := ?_) (a' := ?_) #[true, false, false, false, false, false, false, false, false, false] rfl rfl (take_ofW HT_.out HW_.out (by kernel_rfl)) (fun _ _ _ h => h) (Or.inl ⟨by rfl, ?_⟩) hHeld ?_ ?_
  rotate_left
  ·rintro w' s0
   go_simp
   with_reducible rfl
  rotate_left
  ·simp only [Act.put, List.setIfInBounds_toArray, List.set_cons_zero, List.set_cons_succ, i64_w, i32_w]
   rfl
  refine take_ (i := 1) (N := some 78) (v := ?_) (a' := ?_) #[true, true, false, false, false, false, false, false, false, false] rfl rfl (take_ofW HT_.out HW_.out (by kernel_rfl)) (fun _ _ _ h => h) (Or.inl ⟨by rfl, ?_⟩) hHeld ?_ ?_
  rotate_left
  ·rintro w' s0
   go_simp
   with_reducible rfl
  rotate_left
  ·simp only [Act.put, List.setIfInBounds_toArray, List.set_cons_zero, List.set_cons_succ, i64_w, i32_w]
   rfl
  refine pure_ (i := 2) (N := some 79) (v := ?_) (a' := ?_) #[true, true, true, false, false, false, false, false, false, false] rfl rfl (any_of HT_.out (by kernel_rfl)) (fun _ _ _ h => h) (Or.inl ⟨by rfl, ?_⟩) ?_ ?_
  rotate_left
  ·intro w'
   go_simp
   with_reducible rfl
  rotate_left
  ·simp only [Act.put, List.setIfInBounds_toArray, List.set_cons_zero, List.set_cons_succ, i64_w, i32_w]
   rfl
  refine pure_ (i := 3) (N := some 80) (v := ?_) (a' := ?_) #[true, true, true, true, false, false, false, false, false, false] rfl rfl (any_of HT_.out (by kernel_rfl)) (fun _ _ _ h => h) (Or.inl ⟨by rfl, ?_⟩) ?_ ?_
  rotate_left
  ·intro w'
   go_simp
   with_reducible rfl
  rotate_left
  ·simp only [Act.put, List.setIfInBounds_toArray, List.set_cons_zero, List.set_cons_succ, i64_w, i32_w]
   rfl
  refine pure_ (i := 5) (N := some 82) (v := ?_) (a' := ?_) #[true, true, true, true, false, true, false, false, false, false] rfl rfl (any_of HT_.out (by kernel_rfl)) (fun _ _ _ h => h) (Or.inl ⟨by rfl, ?_⟩) ?_ ?_
  rotate_left
  ·intro w'
   go_simp
   with_reducible rfl
  rotate_left
  ·simp only [Act.put, List.setIfInBounds_toArray, List.set_cons_zero, List.set_cons_succ, i64_w, i32_w]
   rfl
  refine one_ (i := 4) (N := some 81) #[true, true, true, true, true, true, false, false, false, false] rfl rfl (one_of HT_.out (by kernel_rfl)) (by decide) (fun K hK => ?_)
  refine value_ (w1 := ?_) (v := ?_) (by rfl) rfl ?_ ?_
  rotate_left 2
  ·go_simp
   constructor
   ·rfl
   ·rfl
  refine hK.out _ _ k0d (fun hHeld => ?_)
  clear hK K
  refine norm_ (a' := ?_) ?_ ?_
  rotate_left
  ·show Act.put _ (some 81) _ = _
   simp only [Act.put, List.setIfInBounds_toArray, List.set_cons_zero, List.set_cons_succ, i64_w, i32_w]
   rfl
  refine one_ (i := 6) (N := some 83) #[true, true, true, true, true, true, true, false, false, false] rfl rfl (one_of HT_.out (by kernel_rfl)) (by decide) (fun K hK => ?_)
  refine goes_ Try.func39 (by kernel_rfl) rfl #[.slice As2 x1.f2.length cs2, .func (.func 40) #[] #[.pointer (some ⟨q, 0, none⟩)]] (by rfl) rfl rfl (by (try simp only [List.map_toArray, List.map_cons, List.map_nil]); first | done | rfl) ?_
  refine (delete46_any w.heap.size oki2 _ x1.f2 ⟨q, 0, none⟩ x1.f1 w5.drew HR5.out HFL.out).mono ?_
  rintro e w6 ⟨v6, rfl, hR6, hg6, ho6⟩
  refine ⟨_, rfl, ?_⟩
  obtain ⟨xs2, hxs2⟩ : ∃ xs2, x1.f2.filter (fun x => decide (x1.f1 < x.f0)) = xs2 := ⟨_, rfl⟩
  rw [hxs2] at hR6
  have HXS2 := hd hxs2
  clear hxs2
  obtain ⟨A6, c6, rfl⟩ := Kd.R_slice hR6
  have HH6 := hd (Kd.H_grown (Kd.H_drew HH2.out) hg6 (fun k hk => HR5.out.1 k hk))
  have HB6 : Hd (Below w.heap.size w w6) := hd ((below_drew1 HB5.out).grown hg6 HB5.out.size (Kd.R_base HR5.out))
  have k0' : w6.cell? ⟨q, 0, none⟩ = some (.pointer (some ⟨g, i * 3, none⟩)) := hg6.cell (show w5.drew.cell? _ = _ from k0) (fun e => hsq q e.symm rfl)
  have hg6' : g < w6.heap.size := Nat.lt_of_lt_of_le hg5 hg6.size
  have hq6' : q < w6.heap.size := Nat.lt_of_lt_of_le hq5 hg6.size
  have HM6 : Hd (k44.M w6 w.heap.size oki2 (⟨x1.f0, x1.f1, xs2⟩ : S44) [.int .i64 x1.f0, .int .i64 x1.f1, .slice A6 xs2.length c6]) := hd (k44_mkM _ _ _ (⟨x1.f0, x1.f1, xs2⟩ : S44) hR6)
  clear hR6 hg6 ho6 k0 k1 k2 k0d k2d HFL hsq hsg
  refine hK.out _ _ k0' (fun hHeld => ?_)
  clear hK K
  refine norm_ (a' := ?_) ?_ ?_
  rotate_left
  ·show Act.put _ (some 83) _ = _
   simp only [Act.put, List.setIfInBounds_toArray, List.set_cons_zero, List.set_cons_succ, i64_w, i32_w]
   rfl
  refine pure_ (i := 7) (N := some 84) (v := ?_) (a' := ?_) #[true, true, true, true, true, true, true, true, false, false] rfl rfl (any_of HT_.out (by kernel_rfl)) (fun _ _ _ h => h) (Or.inl ⟨by rfl, ?_⟩) ?_ ?_
  rotate_left
  ·intro w'
   go_simp
   with_reducible rfl
  rotate_left
  ·simp only [Act.put, List.setIfInBounds_toArray, List.set_cons_zero, List.set_cons_succ, i64_w, i32_w]
   rfl
  refine pure_ (i := 8) (N := some 85) (v := ?_) (a' := ?_) #[true, true, true, true, true, true, true, true, true, false] rfl rfl (any_of HT_.out (by kernel_rfl)) (fun _ _ _ h => h) (Or.inl ⟨by rfl, ?_⟩) ?_ ?_
  rotate_left
  ·intro w'
   go_simp
   with_reducible rfl
  rotate_left
  ·simp only [Act.put, List.setIfInBounds_toArray, List.set_cons_zero, List.set_cons_succ, i64_w, i32_w]
   rfl
  obtain ⟨hAt, hFr⟩ := Kd.H_at HH6.out (by omega) hil2
  have c2' : w6.cell? ⟨g, i * 3 + 2, none⟩ = some (.slice As2 x1.f2.length cs2) := hAt 2 _ rfl
  have c2f : w6.frozen? ⟨g, i * 3 + 2, none⟩ = false := hFr 2
  obtain ⟨hS7, hg7⟩ := Kd.S_seg0 HH6.out (by omega) hil2 (seg := [.slice A6 xs2.length c6]) (j := 2) (x' := (⟨x1.f0, x1.f1, xs2⟩ : S44)) (okp := oki2) (by show (2 : Nat) + 1 ≤ 3; omega) HM6.out (fun _ h => h)
  refine last_ (i := 9) (N := none) #[true, true, true, true, true, true, true, true, true, true] rfl rfl (one_of HT_.out (by kernel_rfl)) (by decide) (fun K hK => ?_)
  refine skip_ (w1 := w6.setCell ⟨g, i * 3 + 2, none⟩ (.slice A6 xs2.length c6)) (by rfl) rfl ?_ ?_
  ·go_simp
  refine hK.out _ _ ?_
  clear hK K
  refine done_ (done_of HT_.out (by kernel_rfl)) ?_
  have hb7 : Below w.heap.size w (w6.setCell ⟨g, i * 3 + 2, none⟩ (.slice A6 xs2.length c6)) := HB6.out.grown hg7 HB6.out.size (fun k hk => by cases hk; exact HGB.out)
  replace hS7 : Kd.S k44 44 (w6.setCell ⟨g, i * 3 + 2, none⟩ (.slice A6 xs2.length c6)) w.heap.size (fun _ => True) (.slice (some ⟨g, 0, none⟩) L.length c3) ((L.set i x1).set (i : Int).toNat (⟨x1.f0, x1.f1, xs2⟩ : S44)) := hS7
  replace hg7 : w6.grownBy (w6.setCell ⟨g, i * 3 + 2, none⟩ (.slice A6 xs2.length c6)) (some g) := hg7
  generalize w6.setCell ⟨g, i * 3 + 2, none⟩ (.slice A6 xs2.length c6) = w7 at hb7 hS7 hg7 ⊢
  clear c2' c2f hAt hFr
  have HB7 := hd hb7
  have m0 : w7.cell? ⟨q, 0, none⟩ = some (.pointer (some ⟨g, i * 3, none⟩)) := hg7.cell k0' (by simpa using hqg)
  rw [Int.toNat_natCast, List.set_set] at hS7
  have HS7 := hd hS7
  clear hS7 hb7 hg7 k0'
  obtain ⟨oki3, cs3, _, hM3, hcc3, hoki3, hH3⟩ := Kd.S_lend HS7.out z44 (i : Int) (by omega) (by have := HIL.out; omega)
  rw [Int.toNat_natCast, show (L.set i (⟨x1.f0, x1.f1, xs2⟩ : S44)).getD i z44 = ⟨x1.f0, x1.f1, xs2⟩ by have := HIL.out; simp [List.getD_eq_getElem?_getD, this]] at hM3
  rw [Int.toNat_natCast] at hcc3
  obtain ⟨s3, hs3, hRs3⟩ := k44_openM hM3
  subst hs3
  obtain ⟨A7, c7, hs3⟩ := Kd.R_slice hRs3
  subst hs3
  have m1 : w7.cell? ⟨g, i * 3 + 1, none⟩ = some (.int .i64 x1.f1) := hcc3 1 _ rfl
  have m2 : w7.cell? ⟨g, i * 3 + 2, none⟩ = some (.slice A7 xs2.length c7) := hcc3 2 _ rfl
  have HRS3 := hd hRs3
  clear hM3 hcc3 hoki3 hH3 hRs3
  go_wp2_with fail
  have HRI2 : Hd (rises 0 (xs2.map S46.f0) = true) := hd (by
   have h1 := HWR.out.1
   rw [HX.out] at h1
   unfold wrongB at h1
   simp only [Bool.or_eq_false_iff, decide_eq_false_iff_not, Bool.not_eq_false'] at h1
   obtain ⟨⟨⟨h2, h3⟩, h4⟩, h5⟩ := h1
   rw [rises_iff] at h5 ⊢
   rw [← HXS2.out, ← HX1.out]
   refine ⟨h5.1.sublist ((List.filter_sublist).map _), fun y hy => ?_⟩
   obtain ⟨z, hz, rfl⟩ := List.mem_map.1 hy
   have := h5.2 z.f0 (List.mem_map.2 ⟨z, (List.mem_filter.1 hz).1, rfl⟩)
   omega)
  have HSM : Hd (∀ y ∈ xs2, y.f1.length < 140737488355328) := hd (fun y hy => by
   have h1 := HWR.out.2.2
   rw [HX.out] at h1
   rw [← HXS2.out, ← HX1.out] at hy
   exact h1 y (List.mem_filter.1 hy).1)
  have HTL : Hd (lookGood l cl rq ak = if rq ≤ x1.f1 then (L.set i ⟨x1.f0, x1.f1, xs2⟩, 3, [], 0) else if hasN (xs2.map S46.f0) rq = true then (L.set i ⟨x1.f0, x1.f1, xs2⟩, 2, (xs2.getD (under (xs2.map S46.f0) rq) z46).f1, 0) else if 8 ≤ xs2.length then (L.set i ⟨x1.f0, x1.f1, xs2⟩, 4, [], 0) else (L.set i ⟨x1.f0, x1.f1, xs2⟩, 1, [], 0)) := hd (by
   rw [HLK.out]
   unfold lookTail client'
   rw [HX.out, HMM.out, ← HXS2.out, ← HX1.out])
  clear HLK HWR HX HMM HXS2 HX1 HIL HB6 HH6 HM6 HR5 HRS2 HH2 HOK2 HQ82 HQ HQB
  have HI2 : Hd (∀ x ∈ xs2.map S46.f0, i64 x) := hd (fun x hx => by
   have := rises_mem HRI2.out x hx
   unfold i64
   omega)
  have HRQ : Hd (i64 rq) := hd (by obtain ⟨_, _, h1, h2, _⟩ := HA.out; unfold i64; omega)
  refine (place46_any A7 c7 xs2 rq w7 (Kd.R_reads' HRS3.out).2.2 HI2.out HRQ.out).mono ?_
  rintro e w8 ⟨i2, b2', rfl, hf2, hb8⟩
  obtain ⟨rfl, rfl⟩ := found_under hf2 HRI2.out HA.out.2.2.1
  have HB8 : Hd (Below w.heap.size w w8) := hd (below_then HB7.out HB7.out.size hb8)
  have HS8 : Hd (Kd.S k44 44 w8 w.heap.size (fun _ => True) (.slice (some ⟨g, 0, none⟩) L.length c3) (L.set i ⟨x1.f0, x1.f1, xs2⟩)) := hd (Kd.S_below HS7.out hb8)
  have HRS8 := hd (Kd.R_below HRS3.out hb8)
  replace m0 : w8.cell? ⟨q, 0, none⟩ = some (.pointer (some ⟨g, i * 3, none⟩)) := pw_cell_below hb8 m0
  replace m1 : w8.cell? ⟨g, i * 3 + 1, none⟩ = some (.int .i64 x1.f1) := pw_cell_below hb8 m1
  replace m2 : w8.cell? ⟨g, i * 3 + 2, none⟩ = some (.slice A7 xs2.length c7) := pw_cell_below hb8 m2
  clear hf2 hb8 HS7 HRS3
  by_cases hc1 : rq ≤ x1.f1
  ·have HE := HTL.out
   rw [if_pos hc1] at HE
   replace HE := hd HE
   clear HTL
   go_wp2_with fail
   refine bodyPost_ret (results_list (rs := [.tmp 8, .tmp 9, .tmp 10, .tmp 11]) rfl (by simp) (.tmp (.tmp (.tmp (.tmp .nil))))) rfl ?_
   rw [HE.out]
   exact ⟨_, _, rfl, Kd.S_R HS8.out, Kd.R_nil _ _ _ _ _, HB8.out⟩
  ·have HE := HTL.out
   rw [if_neg hc1] at HE
   replace HE := hd HE
   clear HTL
   obtain ⟨j, hj⟩ : ∃ j, under (xs2.map S46.f0) rq = j := ⟨_, rfl⟩
   obtain ⟨bb, hbb⟩ : ∃ bb, hasN (xs2.map S46.f0) rq = bb := ⟨_, rfl⟩
   have HJ : Hd (hasN (xs2.map S46.f0) rq = true → j < xs2.length) := hd (fun h => by
    unfold hasN at h
    rw [hj] at h
    simp only [Bool.and_eq_true, decide_eq_true_eq, List.length_map] at h
    exact h.1)
   rw [hj, hbb] at HE ⊢
   rw [hbb] at HJ
   clear hj hbb
   cases bb with
   | true =>
    have hjl := HJ.out rfl
    have hjl' : (j : Int) < (xs2.length : Int) := by omega
    have HE2 := HE.out
    rw [if_pos rfl] at HE2
    replace HE := hd HE2
    clear HE2 HJ
    obtain ⟨ad, A9, c9, rfl, t0, t1, t2, t3⟩ := at_T46 (Kd.R_reads' HRS8.out).2.2 (j : Int) (by omega) (by omega)
    rw [rd46_nat] at t0 t1 t2 t3
    rw [Int.toNat_natCast] at t0 t1
    obtain ⟨y, hy⟩ : ∃ y, xs2.getD j z46 = y := ⟨_, rfl⟩
    rw [hy] at t0 t1 t2 t3 HE
    have HYS : Hd (y.f1.length < 140737488355328) := hd (HSM.out y (by rw [← hy, getD46_at _ _ hjl]; exact List.getElem_mem _))
    have T3 := hd t3
    clear hy t2 t3 t0
    go_wp2_with fail
    refine (clone_bytes_any A9 c9 y.f1 w8 T3.out HYS.out).mono ?_
    rintro e w9 ⟨v9, rfl, ho9, hb9⟩
    have HO9 := hd ho9
    have HB9 := hd hb9
    clear ho9 hb9
    go_wp2_with fail
    refine bodyPost_ret (results_list (rs := [.tmp 8, .tmp 9, .tmp 10, .tmp 11]) rfl (by simp) (.tmp (.tmp (.tmp (.tmp .nil))))) rfl ?_
    rw [HE.out]
    refine ⟨_, _, rfl, Kd.R_below (Kd.S_R HS8.out) HB9.out, ?_, below_then HB8.out HB8.out.size HB9.out⟩
    exact Kd.R_mono (Kd.R_lower (Kd.R_new' HO9.out (Kd.S_lt HS8.out)) HB8.out.size) (fun k hk => hk.2)
   | false =>
    by_cases h8 : 8 ≤ xs2.length
    ·have h8' : (8 : Int) ≤ (xs2.length : Int) := by omega
     have HE2 := HE.out
     rw [if_neg (by simp), if_pos h8] at HE2
     replace HE := hd HE2
     clear HE2 HJ
     go_wp2_with fail
     refine bodyPost_ret (results_list (rs := [.tmp 8, .tmp 9, .tmp 10, .tmp 11]) rfl (by simp) (.tmp (.tmp (.tmp (.tmp .nil))))) rfl ?_
     rw [HE.out]
     exact ⟨_, _, rfl, Kd.S_R HS8.out, Kd.R_nil _ _ _ _ _, HB8.out⟩
    ·have h8' : ¬ (8 : Int) ≤ (xs2.length : Int) := by omega
     have HE2 := HE.out
     rw [if_neg (by simp), if_neg h8] at HE2
     replace HE := hd HE2
     clear HE2 HJ
     go_wp2_with fail
     refine bodyPost_ret (results_list (rs := [.tmp 8, .tmp 9, .tmp 10, .tmp 11]) rfl (by simp) (.tmp (.tmp (.tmp (.tmp .nil))))) rfl ?_
     rw [HE.out]
     exact ⟨_, _, rfl, Kd.S_R HS8.out, Kd.R_nil _ _ _ _ _, HB8.out⟩
set_option maxRecDepth 100000 in
set_option maxHeartbeats 2000000 in
theorem look_bad (A : Option Addr) (c : Nat) (l : List S44) (cl rq ak : Int) (w : World) (hr : Kd.C k44 w A l.length l)
  (h : rightB l = false ∨ (rightB l = true ∧ (decide (cl < 1) = true ∨ (decide (cl < 1) = false ∧ (decide (4611686018427387904 < cl) = true ∨ (decide (4611686018427387904 < cl) = false ∧ (decide (rq < 1) = true ∨ (decide (rq < 1) = false ∧ (decide (4611686018427387904 < rq) = true ∨ (decide (4611686018427387904 < rq) = false ∧ (decide (ak < 0) = true ∨ (decide (ak < 0) = false ∧ decide (rq ≤ ak) = true)))))))))))) :
  Calls Try.prog 10 #[.slice A l.length c, .int .i64 cl, .int .i64 rq, .int .i64 ak] w fun e w' => ∃ v0_ v2_ : Value, e = .returned (.tuple #[v0_, .int .u8 0, v2_, .int .i64 2]) ∧
   Kd.R k44 44 w' w.heap.size (fun _ => True) v0_ [] ∧ Kd.R (Kd.int .u8) 5 w' w.heap.size (fun k_ => some k_ ≠ v0_.ownBlock) v2_ [] ∧ Below w.heap.size w w' := by
 have HR := hd hr
 clear hr
 rcases h with h | ⟨h, h1 | ⟨h1, h2 | ⟨h2, h3 | ⟨h3, h4 | ⟨h4, h5 | ⟨h5, h6⟩⟩⟩⟩⟩⟩
 all_goals
  have HRI := hd h
  clear h
  go_enter Try.func10, Try.ntmps10
  go_wp2_with fail
  refine (right_any A c l w HR.out).mono ?_
  rintro e w1 ⟨rfl, hb1⟩
  have HB1 := hd hb1
  clear hb1
  rw [HRI.out]
  go_wp2_with fail
  refine bodyPost_ret (results_list (rs := [.tmp 8, .tmp 9, .tmp 10, .tmp 11]) rfl (by simp) (.tmp (.tmp (.tmp (.tmp .nil))))) rfl ?_
  exact ⟨_, _, rfl, Kd.R_nil _ _ _ _ _, Kd.R_nil _ _ _ _ _, HB1.out⟩
def lookArgsB (cl rq ak : Int) : Bool := !decide (cl < 1) && !decide (4611686018427387904 < cl) && !decide (rq < 1) && !decide (4611686018427387904 < rq) && !decide (ak < 0) && !decide (rq ≤ ak)
def small46B (l : List S46) : Bool := decide (l.length < 4398046511104) && l.all fun x => decide (x.f1.length < 140737488355328)
def small44B (l : List S44) : Bool := decide (l.length < 3518437208883) && l.all fun c => small46B c.f2
theorem small44_iff (l : List S44) : small44B l = true ↔ small44 l := by simp [small44B, small46B, small44, small46]
theorem lookArgs_iff (cl rq ak : Int) : lookArgsB cl rq ak = true ↔ lookArgs cl rq ak := by
 unfold lookArgsB lookArgs
 simp only [Bool.and_eq_true, Bool.not_eq_true', decide_eq_false_iff_not]
 omega
def session_Look.f (l0 : List S44) (a1 a2 a3 : Int) : Option (List S44 × Int × List Int × Int) :=
 if (rightB l0 && lookArgsB a1 a2 a3) = true then (if small44B l0 = true then some (lookGood l0 a1 a2 a3) else none) else some ([], 0, [], 2)
theorem session_Look.calls (A0 : Option Addr) (c0 : Nat) (l0 : List S44) (a1 a2 a3 : Int) (r1 : List S44) (r2 : Int) (r3 : List Int) (r4 : Int) (w : World) (hr0 : Kd.C k44 w A0 l0.length l0) (hc0 : l0.length ≤ c0) (h : session_Look.f l0 a1 a2 a3 = some (r1, r2, r3, r4)) :
  Calls Try.prog 10 #[.slice A0 l0.length c0, .int .i64 a1, .int .i64 a2, .int .i64 a3] w fun e w' => ∃ v0_ v2_ : Value, e = .returned (.tuple #[v0_, .int .u8 r2, v2_, .int .i64 r4]) ∧
   Kd.R k44 44 w' w.heap.size (fun _ => True) v0_ r1 ∧ Kd.R (Kd.int .u8) 5 w' w.heap.size (fun k_ => some k_ ≠ v0_.ownBlock) v2_ r3 ∧ Below w.heap.size w w' := by
 unfold session_Look.f at h
 by_cases hc : (rightB l0 && lookArgsB a1 a2 a3) = true
 ·rw [if_pos hc] at h
  simp only [Bool.and_eq_true] at hc
  by_cases hs : small44B l0 = true
  ·rw [if_pos hs] at h
   have e := Option.some.inj h
   have h1 := look_good A0 c0 l0 a1 a2 a3 w hr0 hc.1 ((lookArgs_iff _ _ _).1 hc.2) ((small44_iff _).1 hs) hc0
   rw [e] at h1
   exact h1
  ·rw [if_neg hs] at h
   cases h
 ·rw [if_neg hc] at h
  cases h
  refine look_bad A0 c0 l0 a1 a2 a3 w hr0 ?_
  cases h0 : rightB l0 with
  | false => exact .inl rfl
  | true =>
   refine .inr ⟨rfl, ?_⟩
   rw [h0, Bool.true_and] at hc
   unfold lookArgsB at hc
   cases h1 : decide (a1 < 1) with
   | true => exact .inl rfl
   | false =>
    refine .inr ⟨rfl, ?_⟩
    cases h2 : decide (4611686018427387904 < a1) with
    | true => exact .inl rfl
    | false =>
     refine .inr ⟨rfl, ?_⟩
     cases h3 : decide (a2 < 1) with
     | true => exact .inl rfl
     | false =>
      refine .inr ⟨rfl, ?_⟩
      cases h4 : decide (4611686018427387904 < a2) with
      | true => exact .inl rfl
      | false =>
       refine .inr ⟨rfl, ?_⟩
       cases h5 : decide (a3 < 0) with
       | true => exact .inl rfl
       | false =>
        refine .inr ⟨rfl, ?_⟩
        rw [h1, h2, h3, h4, h5] at hc
        simpa using hc
end Go.Proofs.Ytafnjlgdjhegaaa.Pr
end
