-- MINIFIED by wip/tools/minify.py
/-
 musterlaw27.AccountOnce, by hand: two stores that get the same events, in another order and some of them again.
-/
import Derived.Test.YtinpgejkkfpckaaHTwo
import Derived.Test.YtinpgejkkfpckaaHEvent
import Derived.Test.YtinpgejkkfpckaaHCut
import Derived.Test.YtinpgejkkfpckaaHCopyInts
namespace Go.Proofs.Ytinpgejkkfpckaa.Pr
open Go.RowKit Go.Proofs.YtinpgejkkfpckaaW.PrintWords Go.Proofs.YtinpgejkkfpckaaW.PrintLast Go.Proofs.YtinpgejkkfpckaaW.PrintMore Go.Proofs.YtinpgejkkfpckaaG
attribute [local go_sem] max2_int min2_int max_two min_two
set_option linter.unusedVariables false
set_option linter.unusedSimpArgs false
abbrev kOnce0 : Array Bool := #[true, true, true, true, true, true, true, true, true, true]
abbrev kOnce1 : Array Bool := #[true, true, true, true, true, true, true, true, true, false]
abbrev kOnce2 : Array Bool := #[true, true, true, true, true, true, true, true, false, false]
abbrev kOnce3 : Array Bool := #[true, true, true, true, true, true, true, false, false, false]
abbrev kOnce4 : Array Bool := #[true, true, true, true, true, true, false, false, false, false]
abbrev kOnce5 : Array Bool := #[true, true, true, true, true, false, false, false, false, false]
abbrev kOnce6 : Array Bool := #[true, true, true, true, false, false, false, false, false, false]
abbrev kOnce7 : Array Bool := #[true, true, true, false, false, false, false, false, false, false]
abbrev kOnce8 : Array Bool := #[true, true, false, false, false, false, false, false, false, false]
abbrev kOnce9 : Array Bool := #[true, false, false, false, false, false, false, false, false, false]
abbrev kOnce10 : Array Bool := #[false, false, false, false, false, false, false, false, false, false]
def pk (x : Int) : Int := pickN x 1000003
theorem pk_lt (x : Int) : 0 ≤ pk x ∧ pk x < 1000003 := pick_lt x 1000003 (by omega) (by omega)
theorem add_z (ad : Addr) : ad.add 0 = ad := by unfold Addr.add; cases ad; simp
theorem take_more (l : List Int) (i : Nat) (h : i < l.length) : (l.take (i + 1)).map pk = (l.take i).map pk ++ [pk (l.getD i 0)] := by
 rw [List.take_succ_eq_append_getElem h, List.map_append]
 simp [List.getD_eq_getElem?_getD, h]
theorem cut_mem (L : List Int) (k : Nat) (h : k < L.length) (x : Int) : x ∈ L.map pk ↔ x = pk (L.getD k 0) ∨ x ∈ (L.take k ++ L.drop (k + 1)).map pk := by
 have e : L = L.take k ++ L.getD k 0 :: L.drop (k + 1) := by
  have e1 : L.getD k 0 = L[k] := by simp [List.getD_eq_getElem?_getD, h]
  rw [e1, ← List.drop_eq_getElem_cons h, List.take_append_drop]
 conv => lhs; rw [e]
 simp only [List.map_append, List.map_cons, List.mem_append, List.mem_cons]
 constructor
 ·rintro (h | h | h)
  ·exact .inr (.inl h)
  ·exact .inl h
  ·exact .inr (.inr h)
 ·rintro (h | h | h)
  ·exact .inr (.inl h)
  ·exact .inl h
  ·exact .inr (.inr h)
/-- What the second store has been told, together with what is left, is all. -/
def Rest (wk K L : List Int) : Prop := ∀ x, x ∈ wk.map pk ↔ x ∈ K ∨ x ∈ L.map pk
theorem Rest.cut {wk K L : List Int} (h : Rest wk K L) (k : Nat) (hk : k < L.length) : Rest wk (K ++ [pk (L.getD k 0)]) (L.take k ++ L.drop (k + 1)) := fun x => by
 rw [h x, cut_mem L k hk x, List.mem_append, List.mem_singleton, or_assoc]
theorem Rest.again {wk K L : List Int} (h : Rest wk K L) (j : Nat) (hj : j < wk.length) : Rest wk (K ++ [pk (wk.getD j 0)]) L := fun x => by
 have hm : pk (wk.getD j 0) ∈ wk.map pk := List.mem_map.2 ⟨wk.getD j 0, by simp [List.getD_eq_getElem?_getD, hj], rfl⟩
 rw [h x, List.mem_append, List.mem_singleton]
 constructor
 ·rintro (h1 | h1)
  ·exact .inl (.inl h1)
  ·exact .inr h1
 ·rintro ((h1 | h1) | h1)
  ·exact .inl h1
  ·subst h1
   exact (h _).1 hm
  ·exact .inr h1
def once.T24 : Bool × List (List Nat × List Nat) := (true, [([], []), ([], []), ([], []), ([0, 1, 2], [0, 1, 2]), ([], []), ([], []), ([5], [5]), ([4, 6], [4, 6]), ([3, 7], [3, 7]), ([8, 8, 0, 1, 2, 3, 4, 5, 6, 7, 8], [0, 4, 8])])
def once.B24 : List Nat := [0, 0, 0, 7, 0, 0, 32, 112, 255, 511]
theorem once.tab24 : rtab .any (opsOf Try.f5 24) = once.T24 := by kernel_rfl
theorem once.bits24 : waitsOk once.T24.2 once.B24 = true := by kernel_rfl
set_option maxRecDepth 100000 in
set_option maxHeartbeats 8000000 in
theorem once_walk (A0 A1 A2 : Option Addr) (c0 c1 c2 : Nat) (l0 l1 l2 : List Int) (w : World) (hr0 : Kd.C (Kd.int .i64) w A0 l0.length l0) (hc0 : l0.length ≤ c0) (hr1 : Kd.C (Kd.int .i64) w A1 l1.length l1) (hc1 : l1.length ≤ c1) (hr2 : Kd.C (Kd.int .i64) w A2 l2.length l2) (hc2 : l2.length ≤ c2) :
  Calls Try.prog 5 #[.slice A0 l0.length c0, .slice A1 l1.length c1, .slice A2 l2.length c2] w fun e w' => e = .returned (.bool true) ∧ Below w.heap.size w w' := by
 obtain ⟨i3, hi3, hz3⟩ := Option.map_eq_some_iff.1 info3
 have hm1 := hr1.2.1
 have hm2 := hr2.2.1
 obtain ⟨m, hm⟩ : ∃ m : Nat, min l0.length 40 = m := ⟨_, rfl⟩
 have HR0 := hd (Kd.C_take (m := m) hr0 (by omega))
 obtain ⟨wk, hwk⟩ : ∃ l, l0.take m = l := ⟨_, rfl⟩
 have hwl : wk.length = m := by rw [← hwk, List.length_take]; omega
 have hm40 : m ≤ 40 := by omega
 rw [hwk] at HR0
 have hcut := cut_to (P := Try.prog) 45 3 .i64 Try.underlying45 hi3 A0 l0.length c0 (m : Int) (by omega) (by omega) hc0
 rw [Int.toNat_natCast] at hcut
 have HR1 := hd hr1
 have HR2 := hd hr2
 have hmm : m ≤ l0.length := by omega
 have hmi2 : (if (40 : Int) < (l0.length : Int) then (40 : Int) else (l0.length : Int)) = (m : Int) := by split <;> omega
 have hmc : m ≤ c0 := by omega
 clear hr0 hr1 hr2 hz3 hwk hm
 go_enter Try.func5, Try.ntmps5
 go_wp2_with fail
 refine (new_st w (fun k => w.heap.size ≤ k) (fun _ h => h)).mono ?_
 rintro e w1 ⟨s, rfl, hs, hS, hb⟩
 have HB1 := hd hb
 have S1 := hd (hS.bound)
 clear hb hS
 go_wp2_with fail
 refine (two_new w1 s S1.out HB1.out.size).mono ?_
 rintro e w2 ⟨t, rfl, hT, hz2, hb⟩
 have HT := hd hT
 have HB2 : Hd (Below w.heap.size w w2) := hd (below_then HB1.out HB1.out.size hb)
 clear hT hb S1 HB1 hz2 hs
 go_wp2
 clear hmi2 hcut
 go_loopw [9] (fun iv wr => ∃ (i : Nat) (P : List Past), i ≤ m ∧ iv = .int .i64 (i : Int) ∧ Hd (Known P ((wk.take i).map pk)) ∧ Hd (Two wr w.heap.size s P t [] none) ∧ Hd (Below w.heap.size w wr)) (fun iv _ => m - (intOf iv).toNat)
 case atStart => exact ⟨0, [], by omega, rfl, hd (by simpa using Known.nil), HT, HB2⟩
 case round =>
  obtain ⟨i, P, hi, rfl, HK, HT, HB⟩ := hrel
  by_cases hlt : i < m
  ·obtain ⟨ad, rfl, hx⟩ := Kd.at_int (Kd.C_below HR0.out HB.out) (i : Int) (by omega) (by omega)
   obtain ⟨x, hxx⟩ : ∃ x, rd wk (i : Int) = x := ⟨_, rfl⟩
   rw [hxx, Int.toNat_natCast] at hx
   have HX : Hd (wk.getD i 0 = x) := hd (by rw [← hxx]; simp [rd])
   clear hxx
   have hi' : (i : Int) < (m : Int) := by omega
   have hkl : ((wk.take i).map pk).length ≤ 40 := by rw [List.length_map, List.length_take]; omega
   go_wp2_with fail
   refine (musterlow_Pick.calls x 1000003 (pk x) wr (pick_is x 1000003 (by omega))).mono ?_
   rintro e w3 ⟨rfl, nd, rfl⟩
   have HT3 := hd (HT.out.below (pw_below_drewN (Below.refl _ wr) nd))
   have HB3 : Hd (Below w.heap.size w (wr.drewN nd)) := hd (pw_below_drewN HB.out nd)
   clear HT HB hx
   generalize wr.drewN nd = w3 at HT3 HB3 ⊢
   go_wp2_with fail
   refine (event_st (pk x) w3).mono ?_
   rintro e w4 ⟨rfl, hb⟩
   have HT4 := hd (HT3.out.below hb)
   have HB4 : Hd (Below w.heap.size w w4) := hd (below_then HB3.out HB3.out.size hb)
   clear HT3 HB3 hb
   obtain ⟨ht, hk⟩ := HK.out.take (by omega) (pk_lt x).1 (pk_lt x).2
   have HK4 := hd hk
   have hidl : (idsP P).length ≤ 4096 := by have := idsP_len P; have := HK.out.len; omega
   go_wp2_with fail
   refine (HT4.out.take HB4.out.size hidl ht).mono ?_
   rintro e w5 ⟨rfl, hT5, hz5, hb5, _⟩
   have HT5 := hd hT5
   have HB5 := hd (hb5 w HB4.out)
   clear hT5 hb5 HT4 HB4 ht hk hidl
   go_wp2
   go_roundw
   case rel => exact ⟨i + 1, _, by omega, by go_num, hd (by rw [take_more wk i (by omega), HX.out]; exact HK4.out), HT5, HB5⟩
   case measure => simp [intOf]; omega
  ·have hie : wk.take i = wk := List.take_of_length_le (by omega)
   rw [hie] at HK
   clear hie
   have hnlt : ¬ ((i : Int) < (m : Int)) := by omega
   go_wp2_with fail
   have hcp := musterlow_CopyInts.calls A0 c0 wk wk wr (Kd.C_below HR0.out HB.out) (by omega) (by unfold musterlow_CopyInts.f; rw [if_pos (by simp; omega)]; rfl)
   rw [hwl] at hcp
   refine hcp.mono ?_
   clear hcp
   rintro e w3 ⟨v3, rfl, hR, hb⟩
   obtain ⟨A3, c3, rfl, hc3, hC3⟩ := Kd.R_reads hR
   have HL := hd hC3
   have HT3 : Hd (Two w3 w.heap.size s P t [] A3) := hd (HT.out.arr hb fun ad e => .inr (by
    subst e
    obtain ⟨inner, ho⟩ := Kd.R_own hR
    exact ⟨own_base ho _ rfl, own_lt ho _ rfl⟩))
   have HB3 : Hd (Below w.heap.size w w3) := hd (below_then HB.out HB.out.size hb)
   clear hR hb hC3 HT HB hnlt
   go_wp2
   go_loopw [12, 13] (fun lv iv wr => ∃ (i : Nat) (L : List Int) (A : Option Addr) (c : Nat) (Q : List Past) (K : List Int), lv = .slice A L.length c ∧ L.length ≤ c ∧ iv = .int .i64 (i : Int) ∧ L.length + i = m ∧ K.length ≤ 2 * i ∧ Hd (Kd.C (Kd.int .i64) wr A L.length L) ∧ Hd (Known Q K) ∧ Hd (Rest wk K L) ∧ Hd (Two wr w.heap.size s P t Q A) ∧ Hd (Below w.heap.size w wr)) (fun lv _ _ => match lv with | .slice _ n _ => n | _ => 0)
   case atStart => exact ⟨0, wk, A3, c3, [], [], by rw [hwl], hc3, rfl, by omega, by simp, HL, hd Known.nil, hd (fun x => by simp), HT3, HB3⟩
   case round =>
    clear HL HT3 HB3
    obtain ⟨i, L, A, c, Q, K, rfl, hLc, rfl, hLi, hKl, HL, HQ, HRS, HT, HB⟩ := hrel
    by_cases hL : 0 < L.length
    ·have hL1 : (0 : Int) < (L.length : Int) := by omega
     by_cases h1 : 0 < l1.length
     ·have h1' : (0 : Int) < (l1.length : Int) := by omega
      obtain ⟨o1, hk_⟩ : ∃ k, i % l1.length = k := ⟨_, rfl⟩
      have o1lt : o1 < l1.length := by rw [← hk_]; exact Nat.mod_lt _ (by omega)
      have o1e : Int.tmod (i : Int) (l1.length : Int) = (o1 : Int) := by rw [Int.tmod_eq_emod_of_nonneg (by omega), ← hk_]; omega
      have o1z : ((l1.length : Int) == 0) = false := beq_eq_false_iff_ne.2 (by omega)
      clear hk_
      obtain ⟨ad1, rfl, hx⟩ := Kd.at_int (Kd.C_below HR1.out HB.out) (o1 : Int) (by omega) (by omega)
      obtain ⟨y1, hxx⟩ : ∃ x, rd l1 (o1 : Int) = x := ⟨_, rfl⟩
      rw [hxx, Int.toNat_natCast] at hx
      have HX : Hd (l1.getD o1 0 = y1) := hd (by rw [← hxx]; simp [rd])
      clear hxx
      go_wp2_with fail
      refine (musterlow_Pick.calls y1 (L.length : Int) (pickN y1 (L.length : Int)) wr (pick_is y1 _ (by omega))).mono ?_
      rintro e w_ ⟨rfl, nd, rfl⟩
      replace HL := hd (Kd.C_drewN HL.out nd)
      replace HT := hd (HT.out.below (pw_below_drewN (Below.refl _ wr) nd))
      replace HB : Hd (Below w.heap.size w (wr.drewN nd)) := hd (pw_below_drewN HB.out nd)
      generalize wr.drewN nd = w4 at HL HT HB ⊢
      have hpl := pick_lt y1 (L.length : Int) (by omega) (by omega)
      obtain ⟨k, hpk⟩ : ∃ k : Nat, pickN y1 (L.length : Int) = (k : Int) := ⟨(pickN y1 (L.length : Int)).toNat, by omega⟩
      rw [hpk] at hpl ⊢
      clear hpk
      clear hx HX
      obtain ⟨ad, rfl, hx⟩ := Kd.at_int (HL.out) (k : Int) (by omega) (by omega)
      obtain ⟨x, hxx⟩ : ∃ x, rd L (k : Int) = x := ⟨_, rfl⟩
      rw [hxx, Int.toNat_natCast] at hx
      have HX : Hd (L.getD k 0 = x) := hd (by rw [← hxx]; simp [rd])
      clear hxx
      go_wp2_with fail
      refine (musterlow_Pick.calls x 1000003 (pk x) w4 (pick_is x 1000003 (by omega))).mono ?_
      rintro e w_ ⟨rfl, nd, rfl⟩
      replace HL := hd (Kd.C_drewN HL.out nd)
      replace HT := hd (HT.out.below (pw_below_drewN (Below.refl _ w4) nd))
      replace HB : Hd (Below w.heap.size w (w4.drewN nd)) := hd (pw_below_drewN HB.out nd)
      generalize w4.drewN nd = w5 at HL HT HB ⊢
      go_wp2_with fail
      refine (event_st (pk x) w5).mono ?_
      rintro e w6 ⟨rfl, hb⟩
      replace HL := hd (Kd.C_below HL.out hb)
      replace HT := hd (HT.out.below hb)
      replace HB : Hd (Below w.heap.size w w6) := hd (below_then HB.out HB.out.size hb)
      clear hb
      obtain ⟨ht, hq⟩ := HQ.out.take (by first | omega | (simp only [List.length_append, List.length_singleton]; omega)) (pk_lt x).1 (pk_lt x).2
      have hidl : (idsP Q).length ≤ 4096 := by have h1_ := idsP_len Q; have h2_ := HQ.out.len; (try simp only [List.length_append, List.length_singleton] at h2_); omega
      go_wp2_with fail
      refine (HT.out.swap.take HB.out.size hidl ht).mono ?_
      rintro e w7 ⟨rfl, hT, hz, hb, hl⟩
      replace HL := hd (hl L HL.out)
      replace HT := hd hT.swap
      replace HB := hd (hb w HB.out)
      replace HQ := hd hq
      replace HRS := hd (by have := HRS.out.cut k (by omega); rw [HX.out] at this; exact this)
      clear ht hq hidl hT hz hb hl
      clear hx HX
      by_cases h2 : 0 < l2.length
      ·have h2' : (0 : Int) < (l2.length : Int) := by omega
       obtain ⟨o2, hk_⟩ : ∃ k, i % l2.length = k := ⟨_, rfl⟩
       have o2lt : o2 < l2.length := by rw [← hk_]; exact Nat.mod_lt _ (by omega)
       have o2e : Int.tmod (i : Int) (l2.length : Int) = (o2 : Int) := by rw [Int.tmod_eq_emod_of_nonneg (by omega), ← hk_]; omega
       have o2z : ((l2.length : Int) == 0) = false := beq_eq_false_iff_ne.2 (by omega)
       clear hk_
       obtain ⟨ad2, rfl, hx⟩ := Kd.at_int (Kd.C_below HR2.out HB.out) (o2 : Int) (by omega) (by omega)
       obtain ⟨y2, hxx⟩ : ∃ x, rd l2 (o2 : Int) = x := ⟨_, rfl⟩
       rw [hxx, Int.toNat_natCast] at hx
       have HX : Hd (l2.getD o2 0 = y2) := hd (by rw [← hxx]; simp [rd])
       clear hxx
       go_wp2_with fail
       refine (musterlow_Pick.calls y2 (m : Int) (pickN y2 (m : Int)) w7 (pick_is y2 _ (by omega))).mono ?_
       rintro e w_ ⟨rfl, nd, rfl⟩
       replace HL := hd (Kd.C_drewN HL.out nd)
       replace HT := hd (HT.out.below (pw_below_drewN (Below.refl _ w7) nd))
       replace HB : Hd (Below w.heap.size w (w7.drewN nd)) := hd (pw_below_drewN HB.out nd)
       generalize w7.drewN nd = w8 at HL HT HB ⊢
       have hpl := pick_lt y2 (m : Int) (by omega) (by omega)
       obtain ⟨j, hpk⟩ : ∃ k : Nat, pickN y2 (m : Int) = (k : Int) := ⟨(pickN y2 (m : Int)).toNat, by omega⟩
       rw [hpk] at hpl ⊢
       clear hpk
       clear hx HX
       obtain ⟨ad0, rfl, hx⟩ := Kd.at_int (Kd.C_below HR0.out HB.out) (j : Int) (by omega) (by omega)
       obtain ⟨z, hxx⟩ : ∃ x, rd wk (j : Int) = x := ⟨_, rfl⟩
       rw [hxx, Int.toNat_natCast] at hx
       have HX : Hd (wk.getD j 0 = z) := hd (by rw [← hxx]; simp [rd])
       clear hxx
       go_wp2_with fail
       refine (musterlow_Pick.calls z 1000003 (pk z) w8 (pick_is z 1000003 (by omega))).mono ?_
       rintro e w_ ⟨rfl, nd, rfl⟩
       replace HL := hd (Kd.C_drewN HL.out nd)
       replace HT := hd (HT.out.below (pw_below_drewN (Below.refl _ w8) nd))
       replace HB : Hd (Below w.heap.size w (w8.drewN nd)) := hd (pw_below_drewN HB.out nd)
       generalize w8.drewN nd = w9 at HL HT HB ⊢
       go_wp2_with fail
       refine (event_st (pk z) w9).mono ?_
       rintro e w10 ⟨rfl, hb⟩
       replace HL := hd (Kd.C_below HL.out hb)
       replace HT := hd (HT.out.below hb)
       replace HB : Hd (Below w.heap.size w w10) := hd (below_then HB.out HB.out.size hb)
       clear hb
       obtain ⟨ht, hq⟩ := HQ.out.take (by first | omega | (simp only [List.length_append, List.length_singleton]; omega)) (pk_lt z).1 (pk_lt z).2
       have hidl : (idsP (putE Q (pk x))).length ≤ 4096 := by have h1_ := idsP_len (putE Q (pk x)); have h2_ := HQ.out.len; (try simp only [List.length_append, List.length_singleton] at h2_); omega
       go_wp2_with fail
       refine (HT.out.swap.take HB.out.size hidl ht).mono ?_
       rintro e w11 ⟨rfl, hT, hz, hb, hl⟩
       replace HL := hd (hl L HL.out)
       replace HT := hd hT.swap
       replace HB := hd (hb w HB.out)
       replace HQ := hd hq
       replace HRS := hd (by have := HRS.out.again j (by omega); rw [HX.out] at this; exact this)
       clear ht hq hidl hT hz hb hl
       clear hx HX
       go_wp2_with fail
       have hca := cut_kk (some ad) L.length c k (by omega)
       have hcb := cut_after (some ad) L.length c k (by omega)
       replace HL : Hd (Kd.C (Kd.int .i64) w11.drew (some ad) L.length L) := hd (Kd.C_drewN HL.out 1)
       replace HT : Hd (Two w11.drew _ _ _ _ _ _) := hd (HT.out.below (below_drew1 (Below.refl _ w11)))
       replace HB : Hd (Below w.heap.size w w11.drew) := hd (below_drew1 HB.out)
       obtain ⟨v9, w99, hrun, hb, A9, c9, hA9, rfl, hc9, hC9⟩ := run_cut w11.drew (some ad) c L HL.out hLc (by omega) k (by omega)
       obtain ⟨B, hB⟩ : ∃ B, (if c = k + 1 then some ad else (some ad).map (·.add ((k + 1) * 1))) = B := ⟨_, rfl⟩
       rw [hB] at hcb hrun
       clear hB
       replace HT := hd (HT.out.arr hb hA9)
       replace HB : Hd (Below w.heap.size w w99) := hd (below_then HB.out HB.out.size hb)
       have HL9 := hd hC9
       clear hb hA9 hC9 HL
       have hw1 : wrap64 ((k : Int) + 1) = (k : Int) + 1 := wrap_succ k (by omega)
       refine start_ (n := 10) (S := fun w' => True) (ds := []) kOnce10 (by kernel_rfl) rfl rfl trivial (fun hHeld => ?_)
       refine with_tabW once.tab24 once.bits24 (fun HT_ HW_ => ?_)
       refine pure_ (i := 0) (N := (some 109)) (v := ?_) (a' := ?_) kOnce9 rfl rfl (any_of HT_.out (by kernel_rfl)) (fun _ _ _ h => h) (Or.inl ⟨by rfl, ?_⟩) ?_ ?_
       rotate_left
       ·intro w'
        go_simp
        with_reducible rfl
       rotate_left
       ·simp only [Act.put, List.setIfInBounds_toArray, List.set_cons_zero, List.set_cons_succ, i64_w, i32_w]
        rfl
       refine pure_ (i := 1) (N := (some 110)) (v := ?_) (a' := ?_) kOnce8 rfl rfl (any_of HT_.out (by kernel_rfl)) (fun _ _ _ h => h) (Or.inl ⟨by rfl, ?_⟩) ?_ ?_
       rotate_left
       ·intro w'
        go_simp
        with_reducible rfl
       rotate_left
       ·simp only [Act.put, List.setIfInBounds_toArray, List.set_cons_zero, List.set_cons_succ, i64_w, i32_w]
        rfl
       refine pure_ (i := 2) (N := (some 111)) (v := ?_) (a' := ?_) kOnce7 rfl rfl (any_of HT_.out (by kernel_rfl)) (fun _ _ _ h => h) (Or.inl ⟨by rfl, ?_⟩) ?_ ?_
       rotate_left
       ·intro w'
        go_simp
        with_reducible rfl
       rotate_left
       ·simp only [Act.put, List.setIfInBounds_toArray, List.set_cons_zero, List.set_cons_succ, i64_w, i32_w]
        rfl
       refine pure_ (i := 3) (N := (some 112)) (v := ?_) (a' := ?_) kOnce6 rfl rfl (any_of HT_.out (by kernel_rfl)) (fun _ _ _ h => h) (Or.inl ⟨by rfl, ?_⟩) ?_ ?_
       rotate_left
       ·intro w'
        go_simp
        with_reducible rfl
       rotate_left
       ·simp only [Act.put, List.setIfInBounds_toArray, List.set_cons_zero, List.set_cons_succ, i64_w, i32_w]
        rfl
       refine pure_ (i := 4) (N := (some 113)) (v := ?_) (a' := ?_) kOnce5 rfl rfl (any_of HT_.out (by kernel_rfl)) (fun _ _ _ h => h) (Or.inl ⟨by rfl, ?_⟩) ?_ ?_
       rotate_left
       ·intro w'
        go_simp
        with_reducible rfl
       rotate_left
       ·simp only [Act.put, List.setIfInBounds_toArray, List.set_cons_zero, List.set_cons_succ, i64_w, i32_w]
        rfl
       refine pure_ (i := 5) (N := (some 114)) (v := ?_) (a' := ?_) kOnce4 rfl rfl (any_of HT_.out (by kernel_rfl)) (fun _ _ _ h => h) (Or.inl ⟨by rfl, ?_⟩) ?_ ?_
       rotate_left
       ·intro w'
        go_simp
        with_reducible rfl
       rotate_left
       ·simp only [Act.put, List.setIfInBounds_toArray, List.set_cons_zero, List.set_cons_succ, i64_w, i32_w]
        rfl
       refine pure_ (i := 6) (N := (some 115)) (v := ?_) (a' := ?_) kOnce3 rfl rfl (any_of HT_.out (by kernel_rfl)) (fun _ _ _ h => h) (Or.inl ⟨by rfl, ?_⟩) ?_ ?_
       rotate_left
       ·intro w'
        go_simp
        with_reducible rfl
       rotate_left
       ·simp only [Act.put, List.setIfInBounds_toArray, List.set_cons_zero, List.set_cons_succ, i64_w, i32_w]
        rfl
       refine pure_ (i := 7) (N := (some 116)) (v := ?_) (a' := ?_) kOnce2 rfl rfl (any_of HT_.out (by kernel_rfl)) (fun _ _ _ h => h) (Or.inl ⟨by rfl, ?_⟩) ?_ ?_
       rotate_left
       ·intro w'
        go_simp
        with_reducible rfl
       rotate_left
       ·simp only [Act.put, List.setIfInBounds_toArray, List.set_cons_zero, List.set_cons_succ, i64_w, i32_w]
        rfl
       refine one_ (i := 8) (N := (some 117)) kOnce1 rfl rfl (one_of HT_.out (by kernel_rfl)) (by decide) (fun K hK => ?_)
       refine value_ (w1 := w99) (v := .slice A9 (L.take k ++ L.drop (k + 1)).length c9) (by rfl) rfl ?_ ?_
       ·unfold execOp
        simp [resolve, invoke, builtin, Act.eval, hrun, Result.andThen]
       refine hK.out _ _ trivial (fun hHeld => ?_)
       clear hK K hrun
       refine norm_ (a' := ?_) ?_ ?_
       rotate_left
       ·show Act.put _ (some 117) _ = _
        simp only [Act.put, List.setIfInBounds_toArray, List.set_cons_zero, List.set_cons_succ, i64_w, i32_w]
        rfl
       refine pure_ (i := 9) (N := (some 12)) (v := ?_) (a' := ?_) kOnce0 rfl rfl (any_of HT_.out (by kernel_rfl)) (fun _ _ _ h => h) (Or.inl ⟨by rfl, ?_⟩) ?_ ?_
       rotate_left
       ·intro w'
        go_simp
        with_reducible rfl
       rotate_left
       ·simp only [Act.put, List.setIfInBounds_toArray, List.set_cons_zero, List.set_cons_succ, i64_w, i32_w]
        rfl
       refine done_ (done_of HT_.out (by kernel_rfl)) ?_
       clear HT_ HW_
       clear hw1 hca hcb
       go_wp2
       go_roundw
       case rel => exact ⟨i + 1, L.take k ++ L.drop (k + 1), A9, c9, _, _, by first | rfl | (congr 1; simp; done), hc9, by go_num, by rw [List.length_append, List.length_take, List.length_drop]; omega, by simp; omega, HL9, HQ, HRS, HT, HB⟩
       case measure => simp; omega
      ·have h2' : ¬ ((0 : Int) < (l2.length : Int)) := by omega
       go_wp2_with fail
       have hca := cut_kk (some ad) L.length c k (by omega)
       have hcb := cut_after (some ad) L.length c k (by omega)
       replace HL : Hd (Kd.C (Kd.int .i64) w7.drew (some ad) L.length L) := hd (Kd.C_drewN HL.out 1)
       replace HT : Hd (Two w7.drew _ _ _ _ _ _) := hd (HT.out.below (below_drew1 (Below.refl _ w7)))
       replace HB : Hd (Below w.heap.size w w7.drew) := hd (below_drew1 HB.out)
       obtain ⟨v9, w99, hrun, hb, A9, c9, hA9, rfl, hc9, hC9⟩ := run_cut w7.drew (some ad) c L HL.out hLc (by omega) k (by omega)
       obtain ⟨B, hB⟩ : ∃ B, (if c = k + 1 then some ad else (some ad).map (·.add ((k + 1) * 1))) = B := ⟨_, rfl⟩
       rw [hB] at hcb hrun
       clear hB
       replace HT := hd (HT.out.arr hb hA9)
       replace HB : Hd (Below w.heap.size w w99) := hd (below_then HB.out HB.out.size hb)
       have HL9 := hd hC9
       clear hb hA9 hC9 HL
       have hw1 : wrap64 ((k : Int) + 1) = (k : Int) + 1 := wrap_succ k (by omega)
       refine start_ (n := 10) (S := fun w' => True) (ds := []) kOnce10 (by kernel_rfl) rfl rfl trivial (fun hHeld => ?_)
       refine with_tabW once.tab24 once.bits24 (fun HT_ HW_ => ?_)
       refine pure_ (i := 0) (N := (some 109)) (v := ?_) (a' := ?_) kOnce9 rfl rfl (any_of HT_.out (by kernel_rfl)) (fun _ _ _ h => h) (Or.inl ⟨by rfl, ?_⟩) ?_ ?_
       rotate_left
       ·intro w'
        go_simp
        with_reducible rfl
       rotate_left
       ·simp only [Act.put, List.setIfInBounds_toArray, List.set_cons_zero, List.set_cons_succ, i64_w, i32_w]
        rfl
       refine pure_ (i := 1) (N := (some 110)) (v := ?_) (a' := ?_) kOnce8 rfl rfl (any_of HT_.out (by kernel_rfl)) (fun _ _ _ h => h) (Or.inl ⟨by rfl, ?_⟩) ?_ ?_
       rotate_left
       ·intro w'
        go_simp
        with_reducible rfl
       rotate_left
       ·simp only [Act.put, List.setIfInBounds_toArray, List.set_cons_zero, List.set_cons_succ, i64_w, i32_w]
        rfl
       refine pure_ (i := 2) (N := (some 111)) (v := ?_) (a' := ?_) kOnce7 rfl rfl (any_of HT_.out (by kernel_rfl)) (fun _ _ _ h => h) (Or.inl ⟨by rfl, ?_⟩) ?_ ?_
       rotate_left
       ·intro w'
        go_simp
        with_reducible rfl
       rotate_left
       ·simp only [Act.put, List.setIfInBounds_toArray, List.set_cons_zero, List.set_cons_succ, i64_w, i32_w]
        rfl
       refine pure_ (i := 3) (N := (some 112)) (v := ?_) (a' := ?_) kOnce6 rfl rfl (any_of HT_.out (by kernel_rfl)) (fun _ _ _ h => h) (Or.inl ⟨by rfl, ?_⟩) ?_ ?_
       rotate_left
       ·intro w'
        go_simp
        with_reducible rfl
       rotate_left
       ·simp only [Act.put, List.setIfInBounds_toArray, List.set_cons_zero, List.set_cons_succ, i64_w, i32_w]
        rfl
       refine pure_ (i := 4) (N := (some 113)) (v := ?_) (a' := ?_) kOnce5 rfl rfl (any_of HT_.out (by kernel_rfl)) (fun _ _ _ h => h) (Or.inl ⟨by rfl, ?_⟩) ?_ ?_
       rotate_left
       ·intro w'
        go_simp
        with_reducible rfl
       rotate_left
       ·simp only [Act.put, List.setIfInBounds_toArray, List.set_cons_zero, List.set_cons_succ, i64_w, i32_w]
        rfl
       refine pure_ (i := 5) (N := (some 114)) (v := ?_) (a' := ?_) kOnce4 rfl rfl (any_of HT_.out (by kernel_rfl)) (fun _ _ _ h => h) (Or.inl ⟨by rfl, ?_⟩) ?_ ?_
       rotate_left
       ·intro w'
        go_simp
        with_reducible rfl
       rotate_left
       ·simp only [Act.put, List.setIfInBounds_toArray, List.set_cons_zero, List.set_cons_succ, i64_w, i32_w]
        rfl
       refine pure_ (i := 6) (N := (some 115)) (v := ?_) (a' := ?_) kOnce3 rfl rfl (any_of HT_.out (by kernel_rfl)) (fun _ _ _ h => h) (Or.inl ⟨by rfl, ?_⟩) ?_ ?_
       rotate_left
       ·intro w'
        go_simp
        with_reducible rfl
       rotate_left
       ·simp only [Act.put, List.setIfInBounds_toArray, List.set_cons_zero, List.set_cons_succ, i64_w, i32_w]
        rfl
       refine pure_ (i := 7) (N := (some 116)) (v := ?_) (a' := ?_) kOnce2 rfl rfl (any_of HT_.out (by kernel_rfl)) (fun _ _ _ h => h) (Or.inl ⟨by rfl, ?_⟩) ?_ ?_
       rotate_left
       ·intro w'
        go_simp
        with_reducible rfl
       rotate_left
       ·simp only [Act.put, List.setIfInBounds_toArray, List.set_cons_zero, List.set_cons_succ, i64_w, i32_w]
        rfl
       refine one_ (i := 8) (N := (some 117)) kOnce1 rfl rfl (one_of HT_.out (by kernel_rfl)) (by decide) (fun K hK => ?_)
       refine value_ (w1 := w99) (v := .slice A9 (L.take k ++ L.drop (k + 1)).length c9) (by rfl) rfl ?_ ?_
       ·unfold execOp
        simp [resolve, invoke, builtin, Act.eval, hrun, Result.andThen]
       refine hK.out _ _ trivial (fun hHeld => ?_)
       clear hK K hrun
       refine norm_ (a' := ?_) ?_ ?_
       rotate_left
       ·show Act.put _ (some 117) _ = _
        simp only [Act.put, List.setIfInBounds_toArray, List.set_cons_zero, List.set_cons_succ, i64_w, i32_w]
        rfl
       refine pure_ (i := 9) (N := (some 12)) (v := ?_) (a' := ?_) kOnce0 rfl rfl (any_of HT_.out (by kernel_rfl)) (fun _ _ _ h => h) (Or.inl ⟨by rfl, ?_⟩) ?_ ?_
       rotate_left
       ·intro w'
        go_simp
        with_reducible rfl
       rotate_left
       ·simp only [Act.put, List.setIfInBounds_toArray, List.set_cons_zero, List.set_cons_succ, i64_w, i32_w]
        rfl
       refine done_ (done_of HT_.out (by kernel_rfl)) ?_
       clear HT_ HW_
       clear hw1 hca hcb
       go_wp2
       go_roundw
       case rel => exact ⟨i + 1, L.take k ++ L.drop (k + 1), A9, c9, _, _, by first | rfl | (congr 1; simp; done), hc9, by go_num, by rw [List.length_append, List.length_take, List.length_drop]; omega, by simp; omega, HL9, HQ, HRS, HT, HB⟩
       case measure => simp; omega
     ·have h1' : ¬ ((0 : Int) < (l1.length : Int)) := by omega
      obtain ⟨ad, rfl, hx⟩ := Kd.at_int (HL.out) (0 : Int) (by omega) (by omega)
      obtain ⟨x, hxx⟩ : ∃ x, rd L (0 : Int) = x := ⟨_, rfl⟩
      rw [hxx, show (0 : Int).toNat = 0 from rfl] at hx
      have hx0 := hx
      rw [add_z] at hx0
      have HX : Hd (L.getD 0 0 = x) := hd (by rw [← hxx]; simp [rd])
      clear hxx
      go_wp2_with fail
      refine (musterlow_Pick.calls x 1000003 (pk x) wr (pick_is x 1000003 (by omega))).mono ?_
      rintro e w_ ⟨rfl, nd, rfl⟩
      replace HL := hd (Kd.C_drewN HL.out nd)
      replace HT := hd (HT.out.below (pw_below_drewN (Below.refl _ wr) nd))
      replace HB : Hd (Below w.heap.size w (wr.drewN nd)) := hd (pw_below_drewN HB.out nd)
      generalize wr.drewN nd = w5 at HL HT HB ⊢
      go_wp2_with fail
      refine (event_st (pk x) w5).mono ?_
      rintro e w6 ⟨rfl, hb⟩
      replace HL := hd (Kd.C_below HL.out hb)
      replace HT := hd (HT.out.below hb)
      replace HB : Hd (Below w.heap.size w w6) := hd (below_then HB.out HB.out.size hb)
      clear hb
      obtain ⟨ht, hq⟩ := HQ.out.take (by first | omega | (simp only [List.length_append, List.length_singleton]; omega)) (pk_lt x).1 (pk_lt x).2
      have hidl : (idsP Q).length ≤ 4096 := by have h1_ := idsP_len Q; have h2_ := HQ.out.len; (try simp only [List.length_append, List.length_singleton] at h2_); omega
      go_wp2_with fail
      refine (HT.out.swap.take HB.out.size hidl ht).mono ?_
      rintro e w7 ⟨rfl, hT, hz, hb, hl⟩
      replace HL := hd (hl L HL.out)
      replace HT := hd hT.swap
      replace HB := hd (hb w HB.out)
      replace HQ := hd hq
      replace HRS := hd (by have := HRS.out.cut 0 (by omega); rw [HX.out] at this; exact this)
      clear ht hq hidl hT hz hb hl
      clear hx0
      clear hx HX
      by_cases h2 : 0 < l2.length
      ·have h2' : (0 : Int) < (l2.length : Int) := by omega
       obtain ⟨o2, hk_⟩ : ∃ k, i % l2.length = k := ⟨_, rfl⟩
       have o2lt : o2 < l2.length := by rw [← hk_]; exact Nat.mod_lt _ (by omega)
       have o2e : Int.tmod (i : Int) (l2.length : Int) = (o2 : Int) := by rw [Int.tmod_eq_emod_of_nonneg (by omega), ← hk_]; omega
       have o2z : ((l2.length : Int) == 0) = false := beq_eq_false_iff_ne.2 (by omega)
       clear hk_
       obtain ⟨ad2, rfl, hx⟩ := Kd.at_int (Kd.C_below HR2.out HB.out) (o2 : Int) (by omega) (by omega)
       obtain ⟨y2, hxx⟩ : ∃ x, rd l2 (o2 : Int) = x := ⟨_, rfl⟩
       rw [hxx, Int.toNat_natCast] at hx
       have HX : Hd (l2.getD o2 0 = y2) := hd (by rw [← hxx]; simp [rd])
       clear hxx
       go_wp2_with fail
       refine (musterlow_Pick.calls y2 (m : Int) (pickN y2 (m : Int)) w7 (pick_is y2 _ (by omega))).mono ?_
       rintro e w_ ⟨rfl, nd, rfl⟩
       replace HL := hd (Kd.C_drewN HL.out nd)
       replace HT := hd (HT.out.below (pw_below_drewN (Below.refl _ w7) nd))
       replace HB : Hd (Below w.heap.size w (w7.drewN nd)) := hd (pw_below_drewN HB.out nd)
       generalize w7.drewN nd = w8 at HL HT HB ⊢
       have hpl := pick_lt y2 (m : Int) (by omega) (by omega)
       obtain ⟨j, hpk⟩ : ∃ k : Nat, pickN y2 (m : Int) = (k : Int) := ⟨(pickN y2 (m : Int)).toNat, by omega⟩
       rw [hpk] at hpl ⊢
       clear hpk
       clear hx HX
       obtain ⟨ad0, rfl, hx⟩ := Kd.at_int (Kd.C_below HR0.out HB.out) (j : Int) (by omega) (by omega)
       obtain ⟨z, hxx⟩ : ∃ x, rd wk (j : Int) = x := ⟨_, rfl⟩
       rw [hxx, Int.toNat_natCast] at hx
       have HX : Hd (wk.getD j 0 = z) := hd (by rw [← hxx]; simp [rd])
       clear hxx
       go_wp2_with fail
       refine (musterlow_Pick.calls z 1000003 (pk z) w8 (pick_is z 1000003 (by omega))).mono ?_
       rintro e w_ ⟨rfl, nd, rfl⟩
       replace HL := hd (Kd.C_drewN HL.out nd)
       replace HT := hd (HT.out.below (pw_below_drewN (Below.refl _ w8) nd))
       replace HB : Hd (Below w.heap.size w (w8.drewN nd)) := hd (pw_below_drewN HB.out nd)
       generalize w8.drewN nd = w9 at HL HT HB ⊢
       go_wp2_with fail
       refine (event_st (pk z) w9).mono ?_
       rintro e w10 ⟨rfl, hb⟩
       replace HL := hd (Kd.C_below HL.out hb)
       replace HT := hd (HT.out.below hb)
       replace HB : Hd (Below w.heap.size w w10) := hd (below_then HB.out HB.out.size hb)
       clear hb
       obtain ⟨ht, hq⟩ := HQ.out.take (by first | omega | (simp only [List.length_append, List.length_singleton]; omega)) (pk_lt z).1 (pk_lt z).2
       have hidl : (idsP (putE Q (pk x))).length ≤ 4096 := by have h1_ := idsP_len (putE Q (pk x)); have h2_ := HQ.out.len; (try simp only [List.length_append, List.length_singleton] at h2_); omega
       go_wp2_with fail
       refine (HT.out.swap.take HB.out.size hidl ht).mono ?_
       rintro e w11 ⟨rfl, hT, hz, hb, hl⟩
       replace HL := hd (hl L HL.out)
       replace HT := hd hT.swap
       replace HB := hd (hb w HB.out)
       replace HQ := hd hq
       replace HRS := hd (by have := HRS.out.again j (by omega); rw [HX.out] at this; exact this)
       clear ht hq hidl hT hz hb hl
       clear hx HX
       go_wp2_with fail
       have hw1 : wrap64 (1 : Int) = 1 := w64 ⟨by omega, by omega⟩
       have hca : ∀ W : World, (Instr.slice 45 (.slice (some ad) L.length c) none (some (.int .i64 0)) (some (.int .i64 0))).run Try.prog W = .ok (.slice (some ad) 0 0) W := cut_kk (some ad) L.length c 0 (by omega)
       have hcb : ∀ W : World, (Instr.slice 45 (.slice (some ad) L.length c) (some (.int .i64 1)) none none).run Try.prog W = .ok (.slice (if c = 0 + 1 then some ad else (some ad).map (·.add ((0 + 1) * 1))) (L.length - (0 + 1)) (c - (0 + 1))) W := cut_after (some ad) L.length c 0 (by omega)
       replace HL : Hd (Kd.C (Kd.int .i64) w11.drew (some ad) L.length L) := hd (Kd.C_drewN HL.out 1)
       replace HT : Hd (Two w11.drew _ _ _ _ _ _) := hd (HT.out.below (below_drew1 (Below.refl _ w11)))
       replace HB : Hd (Below w.heap.size w w11.drew) := hd (below_drew1 HB.out)
       obtain ⟨v9, w99, hrun, hb, A9, c9, hA9, rfl, hc9, hC9⟩ := run_cut w11.drew (some ad) c L HL.out hLc (by omega) 0 (by omega)
       obtain ⟨B, hB⟩ : ∃ B, (if c = 0 + 1 then some ad else (some ad).map (·.add ((0 + 1) * 1))) = B := ⟨_, rfl⟩
       rw [hB] at hcb hrun
       simp only [Nat.zero_add] at hcb hrun
       clear hB
       replace HT := hd (HT.out.arr hb hA9)
       replace HB : Hd (Below w.heap.size w w99) := hd (below_then HB.out HB.out.size hb)
       have HL9 := hd hC9
       clear hb hA9 hC9 HL
       refine start_ (n := 10) (S := fun w' => True) (ds := []) kOnce10 (by kernel_rfl) rfl rfl trivial (fun hHeld => ?_)
       refine with_tabW once.tab24 once.bits24 (fun HT_ HW_ => ?_)
       refine pure_ (i := 0) (N := (some 109)) (v := ?_) (a' := ?_) kOnce9 rfl rfl (any_of HT_.out (by kernel_rfl)) (fun _ _ _ h => h) (Or.inl ⟨by rfl, ?_⟩) ?_ ?_
       rotate_left
       ·intro w'
        go_simp
        with_reducible rfl
       rotate_left
       ·simp only [Act.put, List.setIfInBounds_toArray, List.set_cons_zero, List.set_cons_succ, i64_w, i32_w]
        rfl
       refine pure_ (i := 1) (N := (some 110)) (v := ?_) (a' := ?_) kOnce8 rfl rfl (any_of HT_.out (by kernel_rfl)) (fun _ _ _ h => h) (Or.inl ⟨by rfl, ?_⟩) ?_ ?_
       rotate_left
       ·intro w'
        go_simp
        with_reducible rfl
       rotate_left
       ·simp only [Act.put, List.setIfInBounds_toArray, List.set_cons_zero, List.set_cons_succ, i64_w, i32_w]
        rfl
       refine pure_ (i := 2) (N := (some 111)) (v := ?_) (a' := ?_) kOnce7 rfl rfl (any_of HT_.out (by kernel_rfl)) (fun _ _ _ h => h) (Or.inl ⟨by rfl, ?_⟩) ?_ ?_
       rotate_left
       ·intro w'
        go_simp
        with_reducible rfl
       rotate_left
       ·simp only [Act.put, List.setIfInBounds_toArray, List.set_cons_zero, List.set_cons_succ, i64_w, i32_w]
        rfl
       refine pure_ (i := 3) (N := (some 112)) (v := ?_) (a' := ?_) kOnce6 rfl rfl (any_of HT_.out (by kernel_rfl)) (fun _ _ _ h => h) (Or.inl ⟨by rfl, ?_⟩) ?_ ?_
       rotate_left
       ·intro w'
        go_simp
        with_reducible rfl
       rotate_left
       ·simp only [Act.put, List.setIfInBounds_toArray, List.set_cons_zero, List.set_cons_succ, i64_w, i32_w]
        rfl
       refine pure_ (i := 4) (N := (some 113)) (v := ?_) (a' := ?_) kOnce5 rfl rfl (any_of HT_.out (by kernel_rfl)) (fun _ _ _ h => h) (Or.inl ⟨by rfl, ?_⟩) ?_ ?_
       rotate_left
       ·intro w'
        go_simp
        with_reducible rfl
       rotate_left
       ·simp only [Act.put, List.setIfInBounds_toArray, List.set_cons_zero, List.set_cons_succ, i64_w, i32_w]
        rfl
       refine pure_ (i := 5) (N := (some 114)) (v := ?_) (a' := ?_) kOnce4 rfl rfl (any_of HT_.out (by kernel_rfl)) (fun _ _ _ h => h) (Or.inl ⟨by rfl, ?_⟩) ?_ ?_
       rotate_left
       ·intro w'
        go_simp
        with_reducible rfl
       rotate_left
       ·simp only [Act.put, List.setIfInBounds_toArray, List.set_cons_zero, List.set_cons_succ, i64_w, i32_w]
        rfl
       refine pure_ (i := 6) (N := (some 115)) (v := ?_) (a' := ?_) kOnce3 rfl rfl (any_of HT_.out (by kernel_rfl)) (fun _ _ _ h => h) (Or.inl ⟨by rfl, ?_⟩) ?_ ?_
       rotate_left
       ·intro w'
        go_simp
        with_reducible rfl
       rotate_left
       ·simp only [Act.put, List.setIfInBounds_toArray, List.set_cons_zero, List.set_cons_succ, i64_w, i32_w]
        rfl
       refine pure_ (i := 7) (N := (some 116)) (v := ?_) (a' := ?_) kOnce2 rfl rfl (any_of HT_.out (by kernel_rfl)) (fun _ _ _ h => h) (Or.inl ⟨by rfl, ?_⟩) ?_ ?_
       rotate_left
       ·intro w'
        go_simp
        with_reducible rfl
       rotate_left
       ·simp only [Act.put, List.setIfInBounds_toArray, List.set_cons_zero, List.set_cons_succ, i64_w, i32_w]
        rfl
       refine one_ (i := 8) (N := (some 117)) kOnce1 rfl rfl (one_of HT_.out (by kernel_rfl)) (by decide) (fun K hK => ?_)
       refine value_ (w1 := w99) (v := .slice A9 (L.take 0 ++ L.drop (0 + 1)).length c9) (by rfl) rfl ?_ ?_
       ·unfold execOp
        simp [resolve, invoke, builtin, Act.eval, hrun, Result.andThen]
       refine hK.out _ _ trivial (fun hHeld => ?_)
       clear hK K hrun
       refine norm_ (a' := ?_) ?_ ?_
       rotate_left
       ·show Act.put _ (some 117) _ = _
        simp only [Act.put, List.setIfInBounds_toArray, List.set_cons_zero, List.set_cons_succ, i64_w, i32_w]
        rfl
       refine pure_ (i := 9) (N := (some 12)) (v := ?_) (a' := ?_) kOnce0 rfl rfl (any_of HT_.out (by kernel_rfl)) (fun _ _ _ h => h) (Or.inl ⟨by rfl, ?_⟩) ?_ ?_
       rotate_left
       ·intro w'
        go_simp
        with_reducible rfl
       rotate_left
       ·simp only [Act.put, List.setIfInBounds_toArray, List.set_cons_zero, List.set_cons_succ, i64_w, i32_w]
        rfl
       refine done_ (done_of HT_.out (by kernel_rfl)) ?_
       clear HT_ HW_
       clear hw1 hca hcb
       go_wp2
       go_roundw
       case rel => exact ⟨i + 1, L.take 0 ++ L.drop (0 + 1), A9, c9, _, _, by first | rfl | (congr 1; simp; done), hc9, by go_num, by rw [List.length_append, List.length_take, List.length_drop]; omega, by simp; omega, HL9, HQ, HRS, HT, HB⟩
       case measure => simp; omega
      ·have h2' : ¬ ((0 : Int) < (l2.length : Int)) := by omega
       go_wp2_with fail
       have hw1 : wrap64 (1 : Int) = 1 := w64 ⟨by omega, by omega⟩
       have hca : ∀ W : World, (Instr.slice 45 (.slice (some ad) L.length c) none (some (.int .i64 0)) (some (.int .i64 0))).run Try.prog W = .ok (.slice (some ad) 0 0) W := cut_kk (some ad) L.length c 0 (by omega)
       have hcb : ∀ W : World, (Instr.slice 45 (.slice (some ad) L.length c) (some (.int .i64 1)) none none).run Try.prog W = .ok (.slice (if c = 0 + 1 then some ad else (some ad).map (·.add ((0 + 1) * 1))) (L.length - (0 + 1)) (c - (0 + 1))) W := cut_after (some ad) L.length c 0 (by omega)
       replace HL : Hd (Kd.C (Kd.int .i64) w7.drew (some ad) L.length L) := hd (Kd.C_drewN HL.out 1)
       replace HT : Hd (Two w7.drew _ _ _ _ _ _) := hd (HT.out.below (below_drew1 (Below.refl _ w7)))
       replace HB : Hd (Below w.heap.size w w7.drew) := hd (below_drew1 HB.out)
       obtain ⟨v9, w99, hrun, hb, A9, c9, hA9, rfl, hc9, hC9⟩ := run_cut w7.drew (some ad) c L HL.out hLc (by omega) 0 (by omega)
       obtain ⟨B, hB⟩ : ∃ B, (if c = 0 + 1 then some ad else (some ad).map (·.add ((0 + 1) * 1))) = B := ⟨_, rfl⟩
       rw [hB] at hcb hrun
       simp only [Nat.zero_add] at hcb hrun
       clear hB
       replace HT := hd (HT.out.arr hb hA9)
       replace HB : Hd (Below w.heap.size w w99) := hd (below_then HB.out HB.out.size hb)
       have HL9 := hd hC9
       clear hb hA9 hC9 HL
       refine start_ (n := 10) (S := fun w' => True) (ds := []) kOnce10 (by kernel_rfl) rfl rfl trivial (fun hHeld => ?_)
       refine with_tabW once.tab24 once.bits24 (fun HT_ HW_ => ?_)
       refine pure_ (i := 0) (N := (some 109)) (v := ?_) (a' := ?_) kOnce9 rfl rfl (any_of HT_.out (by kernel_rfl)) (fun _ _ _ h => h) (Or.inl ⟨by rfl, ?_⟩) ?_ ?_
       rotate_left
       ·intro w'
        go_simp
        with_reducible rfl
       rotate_left
       ·simp only [Act.put, List.setIfInBounds_toArray, List.set_cons_zero, List.set_cons_succ, i64_w, i32_w]
        rfl
       refine pure_ (i := 1) (N := (some 110)) (v := ?_) (a' := ?_) kOnce8 rfl rfl (any_of HT_.out (by kernel_rfl)) (fun _ _ _ h => h) (Or.inl ⟨by rfl, ?_⟩) ?_ ?_
       rotate_left
       ·intro w'
        go_simp
        with_reducible rfl
       rotate_left
       ·simp only [Act.put, List.setIfInBounds_toArray, List.set_cons_zero, List.set_cons_succ, i64_w, i32_w]
        rfl
       refine pure_ (i := 2) (N := (some 111)) (v := ?_) (a' := ?_) kOnce7 rfl rfl (any_of HT_.out (by kernel_rfl)) (fun _ _ _ h => h) (Or.inl ⟨by rfl, ?_⟩) ?_ ?_
       rotate_left
       ·intro w'
        go_simp
        with_reducible rfl
       rotate_left
       ·simp only [Act.put, List.setIfInBounds_toArray, List.set_cons_zero, List.set_cons_succ, i64_w, i32_w]
        rfl
       refine pure_ (i := 3) (N := (some 112)) (v := ?_) (a' := ?_) kOnce6 rfl rfl (any_of HT_.out (by kernel_rfl)) (fun _ _ _ h => h) (Or.inl ⟨by rfl, ?_⟩) ?_ ?_
       rotate_left
       ·intro w'
        go_simp
        with_reducible rfl
       rotate_left
       ·simp only [Act.put, List.setIfInBounds_toArray, List.set_cons_zero, List.set_cons_succ, i64_w, i32_w]
        rfl
       refine pure_ (i := 4) (N := (some 113)) (v := ?_) (a' := ?_) kOnce5 rfl rfl (any_of HT_.out (by kernel_rfl)) (fun _ _ _ h => h) (Or.inl ⟨by rfl, ?_⟩) ?_ ?_
       rotate_left
       ·intro w'
        go_simp
        with_reducible rfl
       rotate_left
       ·simp only [Act.put, List.setIfInBounds_toArray, List.set_cons_zero, List.set_cons_succ, i64_w, i32_w]
        rfl
       refine pure_ (i := 5) (N := (some 114)) (v := ?_) (a' := ?_) kOnce4 rfl rfl (any_of HT_.out (by kernel_rfl)) (fun _ _ _ h => h) (Or.inl ⟨by rfl, ?_⟩) ?_ ?_
       rotate_left
       ·intro w'
        go_simp
        with_reducible rfl
       rotate_left
       ·simp only [Act.put, List.setIfInBounds_toArray, List.set_cons_zero, List.set_cons_succ, i64_w, i32_w]
        rfl
       refine pure_ (i := 6) (N := (some 115)) (v := ?_) (a' := ?_) kOnce3 rfl rfl (any_of HT_.out (by kernel_rfl)) (fun _ _ _ h => h) (Or.inl ⟨by rfl, ?_⟩) ?_ ?_
       rotate_left
       ·intro w'
        go_simp
        with_reducible rfl
       rotate_left
       ·simp only [Act.put, List.setIfInBounds_toArray, List.set_cons_zero, List.set_cons_succ, i64_w, i32_w]
        rfl
       refine pure_ (i := 7) (N := (some 116)) (v := ?_) (a' := ?_) kOnce2 rfl rfl (any_of HT_.out (by kernel_rfl)) (fun _ _ _ h => h) (Or.inl ⟨by rfl, ?_⟩) ?_ ?_
       rotate_left
       ·intro w'
        go_simp
        with_reducible rfl
       rotate_left
       ·simp only [Act.put, List.setIfInBounds_toArray, List.set_cons_zero, List.set_cons_succ, i64_w, i32_w]
        rfl
       refine one_ (i := 8) (N := (some 117)) kOnce1 rfl rfl (one_of HT_.out (by kernel_rfl)) (by decide) (fun K hK => ?_)
       refine value_ (w1 := w99) (v := .slice A9 (L.take 0 ++ L.drop (0 + 1)).length c9) (by rfl) rfl ?_ ?_
       ·unfold execOp
        simp [resolve, invoke, builtin, Act.eval, hrun, Result.andThen]
       refine hK.out _ _ trivial (fun hHeld => ?_)
       clear hK K hrun
       refine norm_ (a' := ?_) ?_ ?_
       rotate_left
       ·show Act.put _ (some 117) _ = _
        simp only [Act.put, List.setIfInBounds_toArray, List.set_cons_zero, List.set_cons_succ, i64_w, i32_w]
        rfl
       refine pure_ (i := 9) (N := (some 12)) (v := ?_) (a' := ?_) kOnce0 rfl rfl (any_of HT_.out (by kernel_rfl)) (fun _ _ _ h => h) (Or.inl ⟨by rfl, ?_⟩) ?_ ?_
       rotate_left
       ·intro w'
        go_simp
        with_reducible rfl
       rotate_left
       ·simp only [Act.put, List.setIfInBounds_toArray, List.set_cons_zero, List.set_cons_succ, i64_w, i32_w]
        rfl
       refine done_ (done_of HT_.out (by kernel_rfl)) ?_
       clear HT_ HW_
       clear hw1 hca hcb
       go_wp2
       go_roundw
       case rel => exact ⟨i + 1, L.take 0 ++ L.drop (0 + 1), A9, c9, _, _, by first | rfl | (congr 1; simp; done), hc9, by go_num, by rw [List.length_append, List.length_take, List.length_drop]; omega, by simp; omega, HL9, HQ, HRS, HT, HB⟩
       case measure => simp; omega
    ·obtain rfl : L = [] := List.length_eq_zero_iff.1 (by omega)
     have hLn : ¬ ((0 : Int) < (([] : List Int).length : Int)) := by simp
     obtain ⟨hsame, hids⟩ := Known.same HK.out HQ.out (fun x => (HRS.out x).trans (by simp))
     obtain ⟨e1, e2⟩ := told_same (SameP.get HK.out.nd hsame) (idsP P)
     have hPl : (idsP P).length ≤ 40 := by
      have h1_ := idsP_len P
      have h2_ := HK.out.len
      rw [List.length_map] at h2_
      omega
     have hQl : (idsP Q).length ≤ 4096 := by rw [hids]; omega
     have hal : (toldA P (idsP P)).length ≤ 40 := by
      have := runsL_len P ByteArray.empty (idsP P)
      unfold toldA
      split
      ·simp
      ·omega
     have hbl : (toldB P (idsP P)).length ≤ 2000 := by
      have h1_ := rollR_len P (idsP P) ByteArray.empty 0 100000 3600
      have h2_ := rollR_len P (idsP P) ⟨#[97]⟩ 0 200000 86400
      unfold toldB
      split
      ·simp
      ·rw [List.length_append]; omega
     have HE1 := hd e1
     have HE2 := hd e2
     have HIDS := hd hids
     clear hsame e1 e2 hids HRS HQ HK HL
     go_wp2_with fail
     obtain ⟨okS, hSs⟩ := HT.out.first
     refine (told_st hSs (by omega)).mono ?_
     rintro e w5 ⟨va, vb, rfl, hRa, hRb, hb⟩
     replace HT := hd (HT.out.below hb)
     replace HB : Hd (Below w.heap.size w w5) := hd (below_then HB.out HB.out.size hb)
     obtain ⟨ra, hra⟩ : ∃ l, toldA P (idsP P) = l := ⟨_, rfl⟩
     obtain ⟨rb, hrb⟩ : ∃ l, toldB P (idsP P) = l := ⟨_, rfl⟩
     rw [hra] at hRa hal HE1
     rw [hrb] at hRb hbl HE2
     obtain ⟨Aa, ca, rfl, hca, hCa⟩ := Kd.R_reads hRa
     obtain ⟨Ab, cb, rfl, hcb, hCb⟩ := Kd.R_reads hRb
     have HCa := hd hCa
     have HCb := hd hCb
     clear hRa hRb hCa hCb hb hSs hra hrb
     go_wp2_with fail
     obtain ⟨okT, hSt⟩ := HT.out.swap.first
     refine (told_st hSt hQl).mono ?_
     rintro e w6 ⟨vc, vd, rfl, hRc, hRd, hb⟩
     rw [HIDS.out, HE1.out] at hRc
     rw [HIDS.out, HE2.out] at hRd
     obtain ⟨Ac, cc, rfl, hcc, hCc⟩ := Kd.R_reads hRc
     obtain ⟨Ad, cd, rfl, hcd, hCd⟩ := Kd.R_reads hRd
     replace HCa := hd (Kd.C_below HCa.out hb)
     replace HCb := hd (Kd.C_below HCb.out hb)
     have HCc := hd hCc
     have HCd := hd hCd
     replace HB : Hd (Below w.heap.size w w6) := hd (below_then HB.out HB.out.size hb)
     clear hRc hRd hCc hCd hb hSt HT
     go_wp2_with fail
     refine (musterlaw27_sameRuns.calls 5000 Aa ca ra Ac cc ra true w6 HCa.out hca HCc.out hcc (sr_spec _ (by omega) 5000 (by omega))).mono ?_
     rintro e w7 ⟨rfl, nd, rfl⟩
     replace HCb := hd (Kd.C_drewN HCb.out nd)
     replace HCd := hd (Kd.C_drewN HCd.out nd)
     replace HB : Hd (Below w.heap.size w (w6.drewN nd)) := hd (pw_below_drewN HB.out nd)
     clear HCa HCc
     generalize w6.drewN nd = w7 at HCb HCd HB ⊢
     go_wp2_with fail
     refine (musterlow_SameNumbers.calls 2500 Ab cb rb Ad cd rb true w7 HCb.out hcb HCd.out hcd (same_spec _ (by omega) 2500 (by omega))).mono ?_
     rintro e w8 ⟨rfl, nd, rfl⟩
     replace HB : Hd (Below w.heap.size w (w7.drewN nd)) := hd (pw_below_drewN HB.out nd)
     clear HCb HCd
     generalize w7.drewN nd = w8 at HB ⊢
     go_wp2_with fail
     refine (awake_walk w8).mono ?_
     rintro e w9 ⟨rfl, hb⟩
     replace HB : Hd (Below w.heap.size w w9) := hd (below_then HB.out HB.out.size hb)
     go_wp2
     go_ret
     exact ⟨rfl, HB.out⟩
def musterlaw27_AccountOnce.f (l0 l1 l2 : List Int) : Option Bool := some true
theorem musterlaw27_AccountOnce.calls (A0 : Option Addr) (c0 : Nat) (l0 : List Int) (A1 : Option Addr) (c1 : Nat) (l1 : List Int) (A2 : Option Addr) (c2 : Nat) (l2 : List Int) (r : Bool) (w : World) (hr0 : Kd.C (Kd.int .i64) w A0 l0.length l0) (hc0 : l0.length ≤ c0) (hr1 : Kd.C (Kd.int .i64) w A1 l1.length l1) (hc1 : l1.length ≤ c1) (hr2 : Kd.C (Kd.int .i64) w A2 l2.length l2) (hc2 : l2.length ≤ c2) (h : musterlaw27_AccountOnce.f l0 l1 l2 = some r) :
  Calls Try.prog 5 #[.slice A0 l0.length c0, .slice A1 l1.length c1, .slice A2 l2.length c2] w fun e w' => e = .returned (.bool r) ∧ Below w.heap.size w w' := by
 cases h
 exact once_walk A0 A1 A2 c0 c1 c2 l0 l1 l2 w hr0 hc0 hr1 hc1 hr2 hc2
end Go.Proofs.Ytinpgejkkfpckaa.Pr
