/-
  steps.split on a row of the call's own: a cut at a time, if there is none.
-/
import Derived.Test.YteipoopdnimiaaaHPlace
import Derived.Test.YteipoopdnimiaaaHCut
import Derived.Test.YteipoopdnimiaaaHIns
namespace Go.Proofs.Yteipoopdnimiaaa.Pr
open Go.RowKit Go.Proofs.YteipoopdnimiaaaW.PrintWords Go.Proofs.YteipoopdnimiaaaW.PrintLast Go.Proofs.YteipoopdnimiaaaW.PrintMore Go.Proofs.YteipoopdnimiaaaG
set_option linter.unusedVariables false
set_option linter.unusedSimpArgs false
/-- A cut at t, if there is none. -/
def splitAt (l : List S34) (t : Int) : List S34 :=
  let i := upTo l t - 1
  if (l.getD i z34).f0 = t then l else l.take (i + 1) ++ [⟨t, (l.getD i z34).f1⟩] ++ l.drop (i + 1)
theorem upTo_le (l : List S34) (t : Int) : upTo l t ≤ l.length := by
  unfold upTo
  exact List.Sublist.length_le (List.takeWhile_sublist _)
theorem splitAt_yes {l : List S34} {t : Int} {i : Nat} (h : upTo l t = i + 1) (e : (l.getD i z34).f0 = t) : splitAt l t = l := by
  unfold splitAt
  simp only [h, Nat.add_sub_cancel]
  rw [if_pos e]
theorem splitAt_no {l : List S34} {t : Int} {i : Nat} (h : upTo l t = i + 1) (e : ¬ (l.getD i z34).f0 = t) : splitAt l t = l.take (i + 1) ++ [⟨t, (l.getD i z34).f1⟩] ++ l.drop (i + 1) := by
  unfold splitAt
  simp only [h, Nat.add_sub_cancel]
  rw [if_neg e]
set_option maxHeartbeats 800000 in
theorem split_any (B n : Nat) (v : Value) (l : List S34) (t : Int) (w : World) (hown : w.ownsRow B 34 2 v n (cells34 l)) (hri : rising l = true) (hup : 0 < upTo l t) (hB : B ≤ w.heap.size) (hl : n ≤ 1000000) :
    Calls Try.prog 28 #[v, .int .i64 t] w fun e w' => ∃ v', e = .returned v' ∧ w'.ownsRow B 34 2 v' (splitAt l t).length (cells34 (splitAt l t)) ∧ w.grownBy w' v.ownBlock := by
  have hln : l.length = n := by have := hown.1; rw [cells34_length] at this; omega
  subst hln
  obtain ⟨A, c, rfl, hlc, hC⟩ := C34_own hown
  have hup2 := upTo_le l t
  obtain ⟨i, hi⟩ : ∃ i, upTo l t = i + 1 := ⟨upTo l t - 1, by omega⟩
  have hil : i < l.length := by omega
  have hpl := fun (W : World) (hW : Kd.C k34 W A l.length l) => place_any A c l t W hW hlc hri
  rw [hi, show ((i + 1 : Nat) : Int) - 1 = (i : Int) by omega] at hpl
  have HPL := hd hpl
  clear hpl
  have HO := hd hown
  clear hown
  have HC := hd hC
  clear hC
  have HU := hd hi
  clear hi
  have HG := hd hup2
  clear hup2 hup
  go_enter Try.func28, Try.ntmps28
  go_wp2_with fail
  refine (HPL.out _ HC.out).mono ?_
  rintro e w1 ⟨rfl, hb1⟩
  have HC1 := Kd.C_below HC.out hb1
  obtain ⟨ad, rfl, hc0, hc1⟩ := at_T34 HC1 (i : Int) (by omega) (by omega)
  have HB1 := hd hb1
  clear hb1 HC1
  simp only [Int.toNat_natCast] at hc0 hc1
  have HE : Hd (rd_T34 l (i : Int) = l.getD i z34) := hd (by simp [rd_T34])
  generalize hx : rd_T34 l (i : Int) = x at *
  clear hx
  by_cases heq : x.f0 = t
  · have hb : (x.f0 == t) = true := by simpa using heq
    have HQ := hd heq
    clear heq
    go_wp2
    go_ret
    rw [splitAt_yes HU.out (by rw [← HE.out]; exact HQ.out)]
    exact ⟨_, rfl, pw_own_below HO.out HB1.out, grown_of_below HB1.out _⟩
  · have hb : (x.f0 == t) = false := by simpa using heq
    have HQ := hd heq
    clear heq
    have hs := splitAt_no HU.out (by rw [← HE.out]; exact HQ.out)
    rw [← HE.out] at hs
    have hW : Below w.heap.size w (w1.alloc (.cells #[.int .i64 t, .int .i64 x.f1] 34)) := HB1.out.alloc HB1.out.size _
    have hins := Ins34.ins_any (w1.alloc (.cells #[.int .i64 t, .int .i64 x.f1] 34)) B l.length (i + 1) (.slice (some ad) l.length c) (cells34 l) [.int .i64 t, .int .i64 x.f1] (pw_own_below HO.out hW) (by omega) ⟨w1.heap.size, 0, none⟩ 1 rfl
      (fun j u hj => by
        rw [add_off, Nat.zero_add, World.cell?_alloc_new]
        simpa using hj)
      (cells34_one l) (by intro u hu; simp at hu; rcases hu with rfl | rfl <;> rfl) (by have := HB1.out.size; simp; omega) (by omega)
      (fun k hk => by
        have := own_lt HO.out k hk
        have := HB1.out.size
        show w1.heap.size ≠ k
        omega) 34 2 (by unfold World.shape?; rw [Go.heap_alloc_new]; rfl) (World.frozen?_alloc_at _ _ _ _ rfl) (World.frozen?_alloc_at _ _ _ _ rfl)
    rw [show ((i + 1 : Nat) : Int) = (i : Int) + 1 by omega, cells34_take, cells34_drop, show [Value.int .i64 t, .int .i64 x.f1] = cells34 [⟨t, x.f1⟩] from rfl, ← cells34_append, ← cells34_append, ← hs] at hins
    have hsl : (splitAt l t).length = l.length + 1 := by
      rw [hs]
      simp
      omega
    have HINS := hd hins
    have HS := hd hsl
    have HW := hd hW
    clear hins hsl hs hW
    go_wp2_with fail
    refine HINS.out.mono ?_
    rintro e w2 ⟨v2, rfl, ho2, hg2⟩
    have HO2 := hd ho2
    have HG2 := hd hg2
    clear ho2 hg2
    go_wp2
    go_ret
    rw [HS.out]
    exact ⟨_, rfl, HO2.out, grownBy_trans (grown_of_below HW.out _) HG2.out⟩
end Go.Proofs.Yteipoopdnimiaaa.Pr
