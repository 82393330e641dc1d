/-
  session.Look, proved by hand: what it computes.
-/
import Derived.Test.YtafnjlgdjhegaaaQ0
import Derived.Test.YtafnjlgdjhegaaaHRows
import Derived.Test.YtafnjlgdjhegaaaHIns44
import Derived.Test.YtafnjlgdjhegaaaHDel
import Derived.Test.YtafnjlgdjhegaaaHRight
namespace Go.Proofs.Ytafnjlgdjhegaaa.Pr
open Go.RowKit Go.Proofs.YtafnjlgdjhegaaaW.PrintWords Go.Proofs.YtafnjlgdjhegaaaW.PrintLast Go.Proofs.YtafnjlgdjhegaaaW.PrintMore Go.Proofs.YtafnjlgdjhegaaaG
attribute [local go_sem] max2_int min2_int max_two min_two
set_option linter.unusedVariables false
set_option linter.unusedSimpArgs false
/-- How many numbers are below one. -/
def under (T : List Int) (n : Int) : Nat := (T.takeWhile fun x => decide (x < n)).length
def hasN (T : List Int) (n : Int) : Bool := decide (under T n < T.length) && decide (T.getD (under T n) 0 = n)
theorem under_of {T : List Int} {n : Int} {r : Nat} (hr : r ≤ T.length) (h1 : ∀ i, i < r → T.getD i 0 < n) (h2 : ∀ i, r ≤ i → i < T.length → n ≤ T.getD i 0) : under T n = r := by
  induction T generalizing r with
  | nil => simp at hr; subst hr; rfl
  | cons a T ih =>
    unfold under
    cases r with
    | zero =>
      have := h2 0 (by omega) (by simp)
      simp at this
      rw [List.takeWhile_cons_of_neg (by simpa using this)]
      rfl
    | succ r =>
      have h0 := h1 0 (by omega)
      simp at h0
      rw [List.takeWhile_cons_of_pos (by simpa using h0)]
      have := ih (r := r) (by simpa using hr) (fun i hi => by simpa using h1 (i + 1) (by omega)) (fun i hi hn => by simpa using h2 (i + 1) (by omega) (by simpa using hn))
      unfold under at this
      simp [this]
theorem found_under {T : List Int} {n : Int} {i : Nat} {b : Bool} (h : Found T n i b) (hr : rises 0 T = true) (hn : 1 ≤ n) : i = under T n ∧ b = hasN T n := by
  obtain ⟨h1, h2, h3⟩ := h
  obtain ⟨h4, h5⟩ := h3 hr hn
  have e := under_of h1 h4 h5
  refine ⟨e.symm, ?_⟩
  unfold hasN
  rw [e, Bool.eq_iff_iff, h2]
  simp
theorem reps_one {α : Type} {d : Kd α} {w : World} {base : Nat} {ok : Nat → Prop} {xs : List α} {inner : List Value} (h : Reps (d.M w base ok) d.sz xs inner) : ∀ u ∈ inner, u.oneCell' = true := by
  intro u hu
  obtain ⟨j, hj, rfl⟩ := List.mem_iff_getElem.1 hu
  obtain ⟨hl, hr⟩ := h
  rcases Nat.eq_zero_or_pos d.sz with hz | hz
  · rw [hl, hz] at hj
    omega
  · have hlt : j / d.sz < xs.length := by
      rw [Nat.div_lt_iff_lt_mul hz, ← hl]
      exact hj
    have h2 := hr (j / d.sz) _ (List.getElem?_eq_getElem hlt)
    refine d.K_one (d.K_of_M h2) _ ?_
    have e : inner[j] = ((inner.drop (j / d.sz * d.sz)).take d.sz)[j % d.sz]'(by
      rw [List.length_take, List.length_drop]
      have h3 := Nat.div_add_mod j d.sz
      have h4 := Nat.mod_lt j hz
      have h5 : (j / d.sz + 1) * d.sz ≤ xs.length * d.sz := Nat.mul_le_mul_right _ hlt
      rw [Nat.add_mul, Nat.one_mul] at h5
      rw [Nat.mul_comm] at h3
      omega) := by
      rw [List.getElem_take, List.getElem_drop]
      congr 1
      rw [Nat.mul_comm]
      exact (Nat.div_add_mod j d.sz).symm
    rw [e]
    exact List.getElem_mem _
def lookArgs (cl rq ak : Int) : Prop := 1 ≤ cl ∧ cl ≤ 4611686018427387904 ∧ 1 ≤ rq ∧ rq ≤ 4611686018427387904 ∧ 0 ≤ ak ∧ ak < rq
/-- The clients, with one that is known. -/
def withCl (l : List S44) (cl : Int) : List S44 := if hasN (l.map S44.f0) cl = true then l else l.take (under (l.map S44.f0) cl) ++ [⟨cl, 0, []⟩] ++ l.drop (under (l.map S44.f0) cl)
def client' (c : S44) (ak : Int) : S44 := ⟨c.f0, mx c.f1 ak, c.f2.filter fun x => decide (mx c.f1 ak < x.f0)⟩
def lookTail (L : List S44) (i : Nat) (rq ak : Int) : List S44 × Int × List Int × Int :=
  let c := client' (L.getD i z44) ak
  if rq ≤ c.f1 then (L.set i c, 3, [], 0)
  else if hasN (c.f2.map S46.f0) rq = true then (L.set i c, 2, (c.f2.getD (under (c.f2.map S46.f0) rq) z46).f1, 0)
  else if 8 ≤ c.f2.length then (L.set i c, 4, [], 0) else (L.set i c, 1, [], 0)
def lookGood (l : List S44) (cl rq ak : Int) : List S44 × Int × List Int × Int :=
  if hasN (l.map S44.f0) cl = false ∧ 16 ≤ l.length then ([], 0, [], 5) else lookTail (withCl l cl) (under (l.map S44.f0) cl) rq ak
def session_Look.T11 : Bool × List (List Nat × List Nat) := (true, [([], []), ([], []), ([1], [1]), ([2], [2]), ([3], [3]), ([], []), ([4, 5], [4, 5]), ([0, 0, 1, 2, 3, 4, 5, 6], [0]), ([7, 0, 1, 2, 3, 4, 5, 6], [7]), ([8, 6, 6, 0, 1, 2, 3, 4, 5, 6], [6, 8])])
def session_Look.B11 : List Nat := [0, 0, 2, 6, 14, 0, 62, 127, 255, 511]
theorem session_Look.tab11 : rtab .any (opsOf Try.f10 11) = session_Look.T11 := by kernel_rfl
theorem session_Look.bits11 : waitsOk session_Look.T11.2 session_Look.B11 = true := by kernel_rfl
set_option maxRecDepth 100000 in
set_option maxHeartbeats 2000000 in
theorem look_good (A : Option Addr) (c : Nat) (l : List S44) (cl rq ak : Int) (w : World) (hr : Kd.C k44 w A l.length l) (hright : rightB l = true) (ha : lookArgs cl rq ak) (hs : small44 l) (hlc : l.length ≤ c) :
    Calls Try.prog 10 #[.slice A l.length c, .int .i64 cl, .int .i64 rq, .int .i64 ak] w fun e w' => ∃ v0_ v2_ : Value, e = .returned (.tuple #[v0_, .int .u8 (lookGood l cl rq ak).2.1, v2_, .int .i64 (lookGood l cl rq ak).2.2.2]) ∧
      Kd.R k44 44 w' w.heap.size (fun _ => True) v0_ (lookGood l cl rq ak).1 ∧ Kd.R (Kd.int .u8) 5 w' w.heap.size (fun k_ => some k_ ≠ v0_.ownBlock) v2_ (lookGood l cl rq ak).2.2.1 ∧ Below w.heap.size w w' := by
  have HR := hd hr
  have HRI := hd hright
  have HS := hd hs
  have HA := hd ha
  obtain ⟨a1, a2, a3, a4, a5, a6⟩ := ha
  have b1 : decide (cl < 1) = false := by simp; omega
  have b2 : decide (4611686018427387904 < cl) = false := by simp; omega
  have b3 : decide (rq < 1) = false := by simp; omega
  have b4 : decide (4611686018427387904 < rq) = false := by simp; omega
  have b5 : decide (ak < 0) = false := by simp; omega
  have b6 : decide (rq ≤ ak) = false := by simp; omega
  clear hr hright hs a1 a2 a3 a4 a5 a6
  obtain ⟨k, hk⟩ := Ev.rounds (copied_ev l HS.out)
  have HK := hd hk
  clear hk
  have HL16 : Hd (l.length ≤ 16 ∧ rises 0 (l.map S44.f0) = true ∧ l.any wrongB = false) := hd (by have := HRI.out; unfold rightB at this; simpa [and_assoc] using this)
  go_enter Try.func10, Try.ntmps10
  go_wp2_with fail
  refine (right_any A c l w HR.out).mono ?_
  rintro e w1 ⟨rfl, hb1⟩
  have HB1 := hd hb1
  clear hb1
  rw [HRI.out]
  go_wp2_with fail
  refine (session_copied.calls k A c l l w1 (Kd.C_below HR.out HB1.out) hlc HK.out).mono ?_
  rintro e w2 ⟨v, rfl, hS, hb2⟩
  have HB2 : Hd (Below w.heap.size w w2) := hd (below_then HB1.out HB1.out.size hb2)
  have HS2 : Hd (Kd.S k44 44 w2 w.heap.size (fun _ => True) v l) := hd (Kd.S_lower hS HB1.out.size)
  clear hS hb2
  obtain ⟨A2, c2, rfl⟩ := Kd.S_slice HS2.out
  have HX : Hd (∀ x ∈ l.map S44.f0, i64 x) := hd (fun x hx => by
    have := rises_mem HL16.out.2.1 x hx
    unfold i64
    omega)
  have HCL : Hd (i64 cl) := hd (by obtain ⟨h1, h2, _⟩ := HA.out; unfold i64; omega)
  go_wp2_with fail
  refine (place44_any A2 c2 l cl w2 (Kd.S_reads' HS2.out).2.2 HX.out HCL.out).mono ?_
  rintro e w3 ⟨i, b, rfl, hf, hb3⟩
  obtain ⟨rfl, rfl⟩ := found_under hf HL16.out.2.1 HA.out.1
  have HF := hd hf
  clear hf
  have HB3 : Hd (Below w.heap.size w w3) := hd (below_then HB2.out HB2.out.size hb3)
  have HS3 : Hd (Kd.S k44 44 w3 w.heap.size (fun _ => True) (.slice A2 l.length c2) l) := hd (Kd.S_below HS2.out hb3)
  clear hb3 HS2
  obtain ⟨i, hi⟩ : ∃ i, under (l.map S44.f0) cl = i := ⟨_, rfl⟩
  obtain ⟨b, hbb⟩ : ∃ b, hasN (l.map S44.f0) cl = b := ⟨_, rfl⟩
  rw [hi, hbb] at HF ⊢
  have HI := hd hi
  have HBB := hd hbb
  have hil : i ≤ l.length := by have := HF.out.1; rwa [List.length_map] at this
  clear hi hbb
  go_upto_if 55 with (fail)
  go_cut [12] (fun v12 wc => ∃ (L : List S44) (A3 : Option Addr) (c3 : Nat), v12 = .slice A3 L.length c3 ∧ Hd (i < L.length) ∧ Hd (Kd.S k44 44 wc w.heap.size (fun _ => True) (.slice A3 L.length c3) L) ∧ Hd (Below w.heap.size w wc) ∧ Hd (lookGood l cl rq ak = lookTail L i rq ak) ∧ Hd (wrongB (L.getD i z44) = false ∧ small46 (L.getD i z44).f2))
  case first =>
    cases b with
    | true =>
      go_wp2_with fail
      go_meet
      case rel => exact ⟨l, A2, c2, rfl, hd (by have := HBB.out; unfold hasN at this; rw [HI.out] at this; simp only [Bool.and_eq_true, decide_eq_true_eq, List.length_map] at this; exact this.1), HS3, HB3, hd (by unfold lookGood withCl; rw [HBB.out, HI.out]; simp), hd (by
        have hlt : i < l.length := by have := HBB.out; unfold hasN at this; rw [HI.out] at this; simp only [Bool.and_eq_true, decide_eq_true_eq, List.length_map] at this; exact this.1
        rw [getD44_at l i hlt]
        exact ⟨by simpa using List.any_eq_false.1 HL16.out.2.2 _ (List.getElem_mem hlt), HS.out.2 _ (List.getElem_mem hlt)⟩)⟩
    | false =>
      by_cases h16 : 16 ≤ l.length
      · have h16' : (16 : Int) ≤ (l.length : Int) := by omega
        have e : lookGood l cl rq ak = ([], 0, [], 5) := by unfold lookGood; rw [HBB.out, if_pos ⟨rfl, h16⟩]
        have HE := hd e
        clear e
        go_wp2_with fail
        refine bodyPost_ret (results_list (rs := [.tmp 8, .tmp 9, .tmp 10, .tmp 11]) rfl (by simp) (.tmp (.tmp (.tmp (.tmp .nil))))) rfl ?_
        rw [HE.out]
        exact ⟨_, _, rfl, Kd.R_nil _ _ _ _ _, Kd.R_nil _ _ _ _ _, HB3.out⟩
      · have h16' : ¬ (16 : Int) ≤ (l.length : Int) := by omega
        have HW : Hd (Below w.heap.size w (w3.alloc (.cells #[.int .i64 cl, .int .i64 0, .slice none 0 0] 44))) := hd (below_alloc HB3.out _)
        have HSW := Kd.S_alloc HS3.out (.cells #[.int .i64 cl, .int .i64 0, .slice none 0 0] 44)
        obtain ⟨f, h0, inner, ho, hrp⟩ := HSW
        rw [List.length_zipIdx] at ho
        have hone : ∀ u ∈ inner, u.oneCell' = true := reps_one hrp
        have hins := Ins44.ins_any (w3.alloc (.cells #[.int .i64 cl, .int .i64 0, .slice none 0 0] 44)) w.heap.size l.length i (.slice A2 l.length c2) inner [.int .i64 cl, .int .i64 0, .slice none 0 0] ho hil ⟨w3.heap.size, 0, none⟩ 1 rfl
          (fun j u hj => by
            rw [add_off, Nat.zero_add, World.cell?_alloc_new]
            simpa using hj)
          hone (by intro u hu; simp at hu; rcases hu with rfl | rfl | rfl <;> rfl) (by have := HB3.out.size; simp; omega) (by omega)
          (fun k hk => by
            have := Kd.S_lt HS3.out k hk
            show w3.heap.size ≠ k
            omega) 44 3 (by unfold World.shape?; rw [Go.heap_alloc_new]; rfl) (World.frozen?_alloc_at _ _ _ _ rfl) (World.frozen?_alloc_at _ _ _ _ rfl)
        have HINS := hd hins
        have H0 := hd h0
        have HO := hd ho
        have HRP := hd hrp
        clear hins h0 ho hrp hone
        go_wp2_with fail
        refine HINS.out.mono ?_
        rintro e w4 ⟨v', rfl, ho', hg', hat'⟩
        have hS4 := S_insert (x := (⟨cl, 0, []⟩ : S44)) H0.out HO.out HRP.out hil (k44_mkM w4 w.heap.size _ (⟨cl, 0, []⟩ : S44) (Kd.R_nil _ _ _ _ _)) hg' hat' (fun _ _ => trivial) ho'
        have HB4 : Hd (Below w.heap.size w w4) := hd (HW.out.grown hg' HW.out.size (own_base HO.out))
        obtain ⟨A4, c4, rfl⟩ := Kd.S_slice hS4
        have HS4 := hd hS4
        clear ho' hg' hat' hS4
        go_wp2_with fail
        go_meet
        case rel => exact ⟨_, A4, c4, by congr 1; simp; omega, hd (by simp; omega), HS4, HB4, hd (by unfold lookGood withCl; rw [HBB.out, HI.out, if_neg (by simp; omega)]; simp), hd (by
          rw [show (l.take i ++ [(⟨cl, 0, []⟩ : S44)] ++ l.drop i).getD i z44 = ⟨cl, 0, []⟩ by rw [List.getD_eq_getElem?_getD, ins_getElem? l _ i i hil, if_neg (by omega), if_pos rfl]; rfl]
          exact ⟨by simp [wrongB, rises], by simp, by simp⟩)⟩
  case rest =>
    obtain ⟨L, A3, c3, rfl, HIL, HSL, HBW, HLK, HWR⟩ := hcut
    clear HF HI HBB HS3 HB3 HB2 HB1 HX HCL HR HRI HS HK HL16
    obtain ⟨g, cap, hv, hgb, hgl, cells, hcells⟩ := Kd.S_form HSL.out (by have := HIL.out; omega)
    injection hv with hv1 hv2 hv3
    subst hv1 hv3
    clear hv2
    obtain ⟨oki, cs, _, hM, hcc, hoki, hH⟩ := Kd.S_lend HSL.out z44 (i : Int) (by omega) (by have := HIL.out; omega)
    obtain ⟨x, hx⟩ : ∃ x, L.getD i z44 = x := ⟨_, rfl⟩
    rw [Int.toNat_natCast, hx] at hM
    rw [Int.toNat_natCast] at hcc
    obtain ⟨s, rfl, hRs⟩ := k44_openM hM
    obtain ⟨As, cs, rfl⟩ := Kd.R_slice hRs
    have HX := hd hx
    have e0 : wc.cell? ⟨g, i * 3, none⟩ = some (.int .i64 x.f0) := hcc 0 _ rfl
    have e1 : wc.cell? ⟨g, i * 3 + 1, none⟩ = some (.int .i64 x.f1) := hcc 1 _ rfl
    have e2 : wc.cell? ⟨g, i * 3 + 2, none⟩ = some (.slice As x.f2.length cs) := hcc 2 _ rfl
    have hfr : ∀ j, wc.frozen? ⟨g, j, none⟩ = false := fun j => frozen_block hcells
    have HFR := hd hfr
    have HH := hd hH
    have HRS := hd hRs
    have HOK := hd hoki
    have HGB := hd hgb
    have HGL := hd hgl
    have HCE := hd hcells
    have HCC := hd hcc
    clear hx hM hcc hH hRs hoki hgb hgl hcells hfr
    have hil2 : (i : Int) < (L.length : Int) := by have := HIL.out; omega
    go_wp2_with fail
    have f0 : (wc.alloc (.cells #[.pointer (some ⟨g, i * 3, none⟩)] 82)).cell? ⟨wc.heap.size, 0, none⟩ = some (.pointer (some ⟨g, i * 3, none⟩)) := by go_simp
    have f1 : (wc.alloc (.cells #[.pointer (some ⟨g, i * 3, none⟩)] 82)).cell? ⟨g, i * 3 + 1, none⟩ = some (.int .i64 x.f1) := pw_cell_below (below_alloc (Below.refl _ _) _) e1
    have HBA : Hd (Below wc.heap.size wc (wc.alloc (.cells #[.pointer (some ⟨g, i * 3, none⟩)] 82))) := hd (below_alloc (Below.refl _ _) _)
    obtain ⟨q, hq⟩ : ∃ q, wc.heap.size = q := ⟨_, rfl⟩
    rw [hq] at f0 ⊢
    have HQ := hd hq
    clear hq
    have HQB : Hd ((wc.alloc (.cells #[.pointer (some ⟨g, i * 3, none⟩)] 82)).heap[q]? = some (.cells #[.pointer (some ⟨g, i * 3, none⟩)] 82 (0, 0))) := hd (by rw [← HQ.out, Go.heap_alloc_new])
    generalize wc.alloc (.cells #[.pointer (some ⟨g, i * 3, none⟩)] 82) = W1 at f0 f1 HBA HQB ⊢
    clear e0 e1 e2
    go_still_tail 9, (by kernel_rfl)
    change wpList _ _ _ _ _ W1.drew
    obtain ⟨mm, hmm⟩ : ∃ mm, mx x.f1 ak = mm := ⟨_, rfl⟩
    rw [show (if x.f1 < ak then ak else x.f1) = mm from hmm]
    have HMM := hd hmm
    clear hmm
    have HBD : Hd (Below wc.heap.size wc W1.drew) := hd (below_drew1 HBA.out)
    have HM1 : Hd (k44.M W1.drew w.heap.size oki (⟨x.f0, mm, x.f2⟩ : S44) [.int .i64 x.f0, .int .i64 (mm), .slice As x.f2.length cs]) := hd (k44_mkM _ _ _ (⟨x.f0, mm, x.f2⟩ : S44) (Kd.R_below HRS.out HBD.out))
    refine Kd.H_store k44 (w0 := w) w.heap.size rfl rfl 3 (.tmp 76) (.tmp 74) rfl 44 (g := g) (n := L.length) (cap := c3) (o' := i * 3 + 1) (i : Int) 1 L (⟨x.f0, mm, x.f2⟩ : S44) (.int .i64 (mm)) [.int .i64 (mm)] [.int .i64 x.f0, .int .i64 x.f1, .slice As x.f2.length cs] (fun _ => True) oki oki rfl rfl rfl rfl (by kernel_rfl) (by intro q hq; simp at hq; rw [hq]; rfl) (Kd.H_below HH.out HBD.out) (by omega) hil2 (by show (1 : Nat) + 1 ≤ 3; omega) HM1.out (fun _ h => h) (below_then HBW.out HBW.out.size HBD.out) ?_
    intro w5 hS5 hb5 hg5
    obtain ⟨x1, hx1⟩ : ∃ x1 : S44, (⟨x.f0, mm, x.f2⟩ : S44) = x1 := ⟨_, rfl⟩
    rw [hx1] at hS5
    have HX1 := hd hx1
    clear HH HRS HOK HCE HFR HCC hx1 HM1
    have hqg : q ≠ g := by have := HQ.out; have := HGL.out; omega
    have HQ82 : Hd (w5.heap[q]? = some (.cells #[.pointer (some ⟨g, i * 3, none⟩)] 82 (0, 0))) := hd ((hg5.block q (blk_lt HQB.out) (by simpa using hqg)).trans HQB.out)
    have k0 : w5.cell? ⟨q, 0, none⟩ = some (.pointer (some ⟨g, i * 3, none⟩)) := hg5.cell (show W1.drew.cell? _ = _ from f0) (by simpa using hqg)
    obtain ⟨oki2, cs2, _, hM2, hcc2, hoki2, hH2⟩ := Kd.S_lend hS5 z44 (i : Int) (by omega) (by have := HIL.out; omega)
    have hget : (L.set i x1).getD i z44 = x1 := by have := HIL.out; simp [List.getD_eq_getElem?_getD, this]
    rw [Int.toNat_natCast] at hM2 hcc2 hS5 hH2
    rw [hget] at hM2
    obtain ⟨s2, rfl, hRs2⟩ := k44_openM hM2
    obtain ⟨As2, cs2, rfl⟩ := Kd.R_slice hRs2
    have k1 : w5.cell? ⟨g, i * 3 + 1, none⟩ = some (.int .i64 x1.f1) := hcc2 1 _ rfl
    have k2 : w5.cell? ⟨g, i * 3 + 2, none⟩ = some (.slice As2 x1.f2.length cs2) := hcc2 2 _ rfl
    have HH2 := hd hH2
    have HRS2 := hd hRs2
    have HOK2 := hd hoki2
    have HB5 := hd hb5
    clear hM2 hcc2 hS5 hH2 hRs2 hoki2 hget hb5 hg5 f0 f1 HBA HBD
    go_wp2_with fail
    have HR5 : Hd (Kd.R k46 46 w5.drew w.heap.size oki2 (.slice As2 x1.f2.length cs2) x1.f2) := hd (Kd.R_below HRS2.out (below_drew1 (Below.refl _ _)))
    have hq5 : q < w5.heap.size := World.block_lt_of_cell? w5 _ k0
    have hg5 : g < w5.heap.size := World.block_lt_of_cell? w5 _ k1
    have hsg : ∀ k, (Value.slice As2 x1.f2.length cs2).ownBlock = some k → k ≠ g := fun k hk => (HOK2.out k (HR5.out.1 k hk)).2
    have hsq : ∀ k, (Value.slice As2 x1.f2.length cs2).ownBlock = some k → k ≠ q := fun k hk => by
      obtain ⟨ce, hce⟩ := Kd.R_typed HR5.out k hk
      rintro rfl
      have hq82 := HQ82.out
      rw [show w5.drew.heap = w5.heap from rfl] at hce
      rw [hce] at hq82
      injection hq82 with hq82
      injection hq82 with _ hq82
      exact absurd hq82 (by decide)
    have HFL : Hd (∀ W, w5.drew.grownBy W (Value.slice As2 x1.f2.length cs2).ownBlock → Floor W ⟨q, 0, none⟩ x1.f1) := hd (fun W hW => ⟨⟨g, i * 3, none⟩, hW.cell (show w5.drew.cell? _ = _ from k0) (fun e => hsq q e.symm rfl), hW.cell (show w5.drew.cell? _ = _ from k1) (fun e => hsg g e.symm rfl)⟩)
    have k0d : w5.drew.cell? ⟨q, 0, none⟩ = some (.pointer (some ⟨g, i * 3, none⟩)) := k0
    have k2d : w5.drew.cell? ⟨g, i * 3 + 2, none⟩ = some (.slice As2 x1.f2.length cs2) := k2
    refine start_ (n := 10) (S := fun w' => w'.cell? ⟨q, 0, none⟩ = some (.pointer (some ⟨g, i * 3, none⟩))) (ds := [9]) #[false, false, false, false, false, false, false, false, false, false] (by kernel_rfl) rfl rfl k0d (fun hHeld => ?_)
    refine with_tabW session_Look.tab11 session_Look.bits11 (fun HT_ HW_ => ?_)
    refine take_ (i := 0) (N := some 77) (v := ?_) (a' := ?_) #[true, false, false, false, false, false, false, false, false, false] rfl rfl (take_ofW HT_.out HW_.out (by kernel_rfl)) (fun _ _ _ h => h) (Or.inl ⟨by rfl, ?_⟩) hHeld ?_ ?_
    rotate_left
    · rintro w' s0
      go_simp
      with_reducible rfl
    rotate_left
    · simp only [Act.put, List.setIfInBounds_toArray, List.set_cons_zero, List.set_cons_succ, i64_w, i32_w]
      rfl
    refine take_ (i := 1) (N := some 78) (v := ?_) (a' := ?_) #[true, true, false, false, false, false, false, false, false, false] rfl rfl (take_ofW HT_.out HW_.out (by kernel_rfl)) (fun _ _ _ h => h) (Or.inl ⟨by rfl, ?_⟩) hHeld ?_ ?_
    rotate_left
    · rintro w' s0
      go_simp
      with_reducible rfl
    rotate_left
    · simp only [Act.put, List.setIfInBounds_toArray, List.set_cons_zero, List.set_cons_succ, i64_w, i32_w]
      rfl
    refine pure_ (i := 2) (N := some 79) (v := ?_) (a' := ?_) #[true, true, true, false, false, false, false, false, false, false] rfl rfl (any_of HT_.out (by kernel_rfl)) (fun _ _ _ h => h) (Or.inl ⟨by rfl, ?_⟩) ?_ ?_
    rotate_left
    · intro w'
      go_simp
      with_reducible rfl
    rotate_left
    · simp only [Act.put, List.setIfInBounds_toArray, List.set_cons_zero, List.set_cons_succ, i64_w, i32_w]
      rfl
    refine pure_ (i := 3) (N := some 80) (v := ?_) (a' := ?_) #[true, true, true, true, false, false, false, false, false, false] rfl rfl (any_of HT_.out (by kernel_rfl)) (fun _ _ _ h => h) (Or.inl ⟨by rfl, ?_⟩) ?_ ?_
    rotate_left
    · intro w'
      go_simp
      with_reducible rfl
    rotate_left
    · simp only [Act.put, List.setIfInBounds_toArray, List.set_cons_zero, List.set_cons_succ, i64_w, i32_w]
      rfl
    refine pure_ (i := 5) (N := some 82) (v := ?_) (a' := ?_) #[true, true, true, true, false, true, false, false, false, false] rfl rfl (any_of HT_.out (by kernel_rfl)) (fun _ _ _ h => h) (Or.inl ⟨by rfl, ?_⟩) ?_ ?_
    rotate_left
    · intro w'
      go_simp
      with_reducible rfl
    rotate_left
    · simp only [Act.put, List.setIfInBounds_toArray, List.set_cons_zero, List.set_cons_succ, i64_w, i32_w]
      rfl
    refine one_ (i := 4) (N := some 81) #[true, true, true, true, true, true, false, false, false, false] rfl rfl (one_of HT_.out (by kernel_rfl)) (by decide) (fun K hK => ?_)
    refine value_ (w1 := ?_) (v := ?_) (by rfl) rfl ?_ ?_
    rotate_left 2
    · go_simp
      constructor
      · rfl
      · rfl
    refine hK.out _ _ k0d (fun hHeld => ?_)
    clear hK K
    refine norm_ (a' := ?_) ?_ ?_
    rotate_left
    · show Act.put _ (some 81) _ = _
      simp only [Act.put, List.setIfInBounds_toArray, List.set_cons_zero, List.set_cons_succ, i64_w, i32_w]
      rfl
    refine one_ (i := 6) (N := some 83) #[true, true, true, true, true, true, true, false, false, false] rfl rfl (one_of HT_.out (by kernel_rfl)) (by decide) (fun K hK => ?_)
    refine goes_ Try.func39 (by kernel_rfl) rfl #[.slice As2 x1.f2.length cs2, .func (.func 40) #[] #[.pointer (some ⟨q, 0, none⟩)]] (by rfl) rfl rfl (by (try simp only [List.map_toArray, List.map_cons, List.map_nil]); first | done | rfl) ?_
    refine (delete46_any w.heap.size oki2 _ x1.f2 ⟨q, 0, none⟩ x1.f1 w5.drew HR5.out HFL.out).mono ?_
    rintro e w6 ⟨v6, rfl, hR6, hg6, ho6⟩
    refine ⟨_, rfl, ?_⟩
    obtain ⟨xs2, hxs2⟩ : ∃ xs2, x1.f2.filter (fun x => decide (x1.f1 < x.f0)) = xs2 := ⟨_, rfl⟩
    rw [hxs2] at hR6
    have HXS2 := hd hxs2
    clear hxs2
    obtain ⟨A6, c6, rfl⟩ := Kd.R_slice hR6
    have HH6 := hd (Kd.H_grown (Kd.H_drew HH2.out) hg6 (fun k hk => HR5.out.1 k hk))
    have HB6 : Hd (Below w.heap.size w w6) := hd ((below_drew1 HB5.out).grown hg6 HB5.out.size (Kd.R_base HR5.out))
    have k0' : w6.cell? ⟨q, 0, none⟩ = some (.pointer (some ⟨g, i * 3, none⟩)) := hg6.cell (show w5.drew.cell? _ = _ from k0) (fun e => hsq q e.symm rfl)
    have hg6' : g < w6.heap.size := Nat.lt_of_lt_of_le hg5 hg6.size
    have hq6' : q < w6.heap.size := Nat.lt_of_lt_of_le hq5 hg6.size
    have HM6 : Hd (k44.M w6 w.heap.size oki2 (⟨x1.f0, x1.f1, xs2⟩ : S44) [.int .i64 x1.f0, .int .i64 x1.f1, .slice A6 xs2.length c6]) := hd (k44_mkM _ _ _ (⟨x1.f0, x1.f1, xs2⟩ : S44) hR6)
    clear hR6 hg6 ho6 k0 k1 k2 k0d k2d HFL hsq hsg
    refine hK.out _ _ k0' (fun hHeld => ?_)
    clear hK K
    refine norm_ (a' := ?_) ?_ ?_
    rotate_left
    · show Act.put _ (some 83) _ = _
      simp only [Act.put, List.setIfInBounds_toArray, List.set_cons_zero, List.set_cons_succ, i64_w, i32_w]
      rfl
    refine pure_ (i := 7) (N := some 84) (v := ?_) (a' := ?_) #[true, true, true, true, true, true, true, true, false, false] rfl rfl (any_of HT_.out (by kernel_rfl)) (fun _ _ _ h => h) (Or.inl ⟨by rfl, ?_⟩) ?_ ?_
    rotate_left
    · intro w'
      go_simp
      with_reducible rfl
    rotate_left
    · simp only [Act.put, List.setIfInBounds_toArray, List.set_cons_zero, List.set_cons_succ, i64_w, i32_w]
      rfl
    refine pure_ (i := 8) (N := some 85) (v := ?_) (a' := ?_) #[true, true, true, true, true, true, true, true, true, false] rfl rfl (any_of HT_.out (by kernel_rfl)) (fun _ _ _ h => h) (Or.inl ⟨by rfl, ?_⟩) ?_ ?_
    rotate_left
    · intro w'
      go_simp
      with_reducible rfl
    rotate_left
    · simp only [Act.put, List.setIfInBounds_toArray, List.set_cons_zero, List.set_cons_succ, i64_w, i32_w]
      rfl
    obtain ⟨hAt, hFr⟩ := Kd.H_at HH6.out (by omega) hil2
    have c2' : w6.cell? ⟨g, i * 3 + 2, none⟩ = some (.slice As2 x1.f2.length cs2) := hAt 2 _ rfl
    have c2f : w6.frozen? ⟨g, i * 3 + 2, none⟩ = false := hFr 2
    obtain ⟨hS7, hg7⟩ := Kd.S_seg0 HH6.out (by omega) hil2 (seg := [.slice A6 xs2.length c6]) (j := 2) (x' := (⟨x1.f0, x1.f1, xs2⟩ : S44)) (okp := oki2) (by show (2 : Nat) + 1 ≤ 3; omega) HM6.out (fun _ h => h)
    refine last_ (i := 9) (N := none) #[true, true, true, true, true, true, true, true, true, true] rfl rfl (one_of HT_.out (by kernel_rfl)) (by decide) (fun K hK => ?_)
    refine skip_ (w1 := w6.setCell ⟨g, i * 3 + 2, none⟩ (.slice A6 xs2.length c6)) (by rfl) rfl ?_ ?_
    · go_simp
    refine hK.out _ _ ?_
    clear hK K
    refine done_ (done_of HT_.out (by kernel_rfl)) ?_
    have hb7 : Below w.heap.size w (w6.setCell ⟨g, i * 3 + 2, none⟩ (.slice A6 xs2.length c6)) := HB6.out.grown hg7 HB6.out.size (fun k hk => by cases hk; exact HGB.out)
    replace hS7 : Kd.S k44 44 (w6.setCell ⟨g, i * 3 + 2, none⟩ (.slice A6 xs2.length c6)) w.heap.size (fun _ => True) (.slice (some ⟨g, 0, none⟩) L.length c3) ((L.set i x1).set (i : Int).toNat (⟨x1.f0, x1.f1, xs2⟩ : S44)) := hS7
    replace hg7 : w6.grownBy (w6.setCell ⟨g, i * 3 + 2, none⟩ (.slice A6 xs2.length c6)) (some g) := hg7
    generalize w6.setCell ⟨g, i * 3 + 2, none⟩ (.slice A6 xs2.length c6) = w7 at hb7 hS7 hg7 ⊢
    clear c2' c2f hAt hFr
    have HB7 := hd hb7
    have m0 : w7.cell? ⟨q, 0, none⟩ = some (.pointer (some ⟨g, i * 3, none⟩)) := hg7.cell k0' (by simpa using hqg)
    rw [Int.toNat_natCast, List.set_set] at hS7
    have HS7 := hd hS7
    clear hS7 hb7 hg7 k0'
    obtain ⟨oki3, cs3, _, hM3, hcc3, hoki3, hH3⟩ := Kd.S_lend HS7.out z44 (i : Int) (by omega) (by have := HIL.out; omega)
    rw [Int.toNat_natCast, show (L.set i (⟨x1.f0, x1.f1, xs2⟩ : S44)).getD i z44 = ⟨x1.f0, x1.f1, xs2⟩ by have := HIL.out; simp [List.getD_eq_getElem?_getD, this]] at hM3
    rw [Int.toNat_natCast] at hcc3
    obtain ⟨s3, hs3, hRs3⟩ := k44_openM hM3
    subst hs3
    obtain ⟨A7, c7, hs3⟩ := Kd.R_slice hRs3
    subst hs3
    have m1 : w7.cell? ⟨g, i * 3 + 1, none⟩ = some (.int .i64 x1.f1) := hcc3 1 _ rfl
    have m2 : w7.cell? ⟨g, i * 3 + 2, none⟩ = some (.slice A7 xs2.length c7) := hcc3 2 _ rfl
    have HRS3 := hd hRs3
    clear hM3 hcc3 hoki3 hH3 hRs3
    go_wp2_with fail
    have HRI2 : Hd (rises 0 (xs2.map S46.f0) = true) := hd (by
      have h1 := HWR.out.1
      rw [HX.out] at h1
      unfold wrongB at h1
      simp only [Bool.or_eq_false_iff, decide_eq_false_iff_not, Bool.not_eq_false'] at h1
      obtain ⟨⟨⟨h2, h3⟩, h4⟩, h5⟩ := h1
      rw [rises_iff] at h5 ⊢
      rw [← HXS2.out, ← HX1.out]
      refine ⟨h5.1.sublist ((List.filter_sublist).map _), fun y hy => ?_⟩
      obtain ⟨z, hz, rfl⟩ := List.mem_map.1 hy
      have := h5.2 z.f0 (List.mem_map.2 ⟨z, (List.mem_filter.1 hz).1, rfl⟩)
      omega)
    have HSM : Hd (∀ y ∈ xs2, y.f1.length < 140737488355328) := hd (fun y hy => by
      have h1 := HWR.out.2.2
      rw [HX.out] at h1
      rw [← HXS2.out, ← HX1.out] at hy
      exact h1 y (List.mem_filter.1 hy).1)
    have HTL : Hd (lookGood l cl rq ak = if rq ≤ x1.f1 then (L.set i ⟨x1.f0, x1.f1, xs2⟩, 3, [], 0) else if hasN (xs2.map S46.f0) rq = true then (L.set i ⟨x1.f0, x1.f1, xs2⟩, 2, (xs2.getD (under (xs2.map S46.f0) rq) z46).f1, 0) else if 8 ≤ xs2.length then (L.set i ⟨x1.f0, x1.f1, xs2⟩, 4, [], 0) else (L.set i ⟨x1.f0, x1.f1, xs2⟩, 1, [], 0)) := hd (by
      rw [HLK.out]
      unfold lookTail client'
      rw [HX.out, HMM.out, ← HXS2.out, ← HX1.out])
    clear HLK HWR HX HMM HXS2 HX1 HIL HB6 HH6 HM6 HR5 HRS2 HH2 HOK2 HQ82 HQ HQB
    have HI2 : Hd (∀ x ∈ xs2.map S46.f0, i64 x) := hd (fun x hx => by
      have := rises_mem HRI2.out x hx
      unfold i64
      omega)
    have HRQ : Hd (i64 rq) := hd (by obtain ⟨_, _, h1, h2, _⟩ := HA.out; unfold i64; omega)
    refine (place46_any A7 c7 xs2 rq w7 (Kd.R_reads' HRS3.out).2.2 HI2.out HRQ.out).mono ?_
    rintro e w8 ⟨i2, b2', rfl, hf2, hb8⟩
    obtain ⟨rfl, rfl⟩ := found_under hf2 HRI2.out HA.out.2.2.1
    have HB8 : Hd (Below w.heap.size w w8) := hd (below_then HB7.out HB7.out.size hb8)
    have HS8 : Hd (Kd.S k44 44 w8 w.heap.size (fun _ => True) (.slice (some ⟨g, 0, none⟩) L.length c3) (L.set i ⟨x1.f0, x1.f1, xs2⟩)) := hd (Kd.S_below HS7.out hb8)
    have HRS8 := hd (Kd.R_below HRS3.out hb8)
    replace m0 : w8.cell? ⟨q, 0, none⟩ = some (.pointer (some ⟨g, i * 3, none⟩)) := pw_cell_below hb8 m0
    replace m1 : w8.cell? ⟨g, i * 3 + 1, none⟩ = some (.int .i64 x1.f1) := pw_cell_below hb8 m1
    replace m2 : w8.cell? ⟨g, i * 3 + 2, none⟩ = some (.slice A7 xs2.length c7) := pw_cell_below hb8 m2
    clear hf2 hb8 HS7 HRS3
    by_cases hc1 : rq ≤ x1.f1
    · have HE := HTL.out
      rw [if_pos hc1] at HE
      replace HE := hd HE
      clear HTL
      go_wp2_with fail
      refine bodyPost_ret (results_list (rs := [.tmp 8, .tmp 9, .tmp 10, .tmp 11]) rfl (by simp) (.tmp (.tmp (.tmp (.tmp .nil))))) rfl ?_
      rw [HE.out]
      exact ⟨_, _, rfl, Kd.S_R HS8.out, Kd.R_nil _ _ _ _ _, HB8.out⟩
    · have HE := HTL.out
      rw [if_neg hc1] at HE
      replace HE := hd HE
      clear HTL
      obtain ⟨j, hj⟩ : ∃ j, under (xs2.map S46.f0) rq = j := ⟨_, rfl⟩
      obtain ⟨bb, hbb⟩ : ∃ bb, hasN (xs2.map S46.f0) rq = bb := ⟨_, rfl⟩
      have HJ : Hd (hasN (xs2.map S46.f0) rq = true → j < xs2.length) := hd (fun h => by
        unfold hasN at h
        rw [hj] at h
        simp only [Bool.and_eq_true, decide_eq_true_eq, List.length_map] at h
        exact h.1)
      rw [hj, hbb] at HE ⊢
      rw [hbb] at HJ
      clear hj hbb
      cases bb with
      | true =>
        have hjl := HJ.out rfl
        have hjl' : (j : Int) < (xs2.length : Int) := by omega
        have HE2 := HE.out
        rw [if_pos rfl] at HE2
        replace HE := hd HE2
        clear HE2 HJ
        obtain ⟨ad, A9, c9, rfl, t0, t1, t2, t3⟩ := at_T46 (Kd.R_reads' HRS8.out).2.2 (j : Int) (by omega) (by omega)
        rw [rd46_nat] at t0 t1 t2 t3
        rw [Int.toNat_natCast] at t0 t1
        obtain ⟨y, hy⟩ : ∃ y, xs2.getD j z46 = y := ⟨_, rfl⟩
        rw [hy] at t0 t1 t2 t3 HE
        have HYS : Hd (y.f1.length < 140737488355328) := hd (HSM.out y (by rw [← hy, getD46_at _ _ hjl]; exact List.getElem_mem _))
        have T3 := hd t3
        clear hy t2 t3 t0
        go_wp2_with fail
        refine (clone_bytes_any A9 c9 y.f1 w8 T3.out HYS.out).mono ?_
        rintro e w9 ⟨v9, rfl, ho9, hb9⟩
        have HO9 := hd ho9
        have HB9 := hd hb9
        clear ho9 hb9
        go_wp2_with fail
        refine bodyPost_ret (results_list (rs := [.tmp 8, .tmp 9, .tmp 10, .tmp 11]) rfl (by simp) (.tmp (.tmp (.tmp (.tmp .nil))))) rfl ?_
        rw [HE.out]
        refine ⟨_, _, rfl, Kd.R_below (Kd.S_R HS8.out) HB9.out, ?_, below_then HB8.out HB8.out.size HB9.out⟩
        exact Kd.R_mono (Kd.R_lower (Kd.R_new' HO9.out (Kd.S_lt HS8.out)) HB8.out.size) (fun k hk => hk.2)
      | false =>
        by_cases h8 : 8 ≤ xs2.length
        · have h8' : (8 : Int) ≤ (xs2.length : Int) := by omega
          have HE2 := HE.out
          rw [if_neg (by simp), if_pos h8] at HE2
          replace HE := hd HE2
          clear HE2 HJ
          go_wp2_with fail
          refine bodyPost_ret (results_list (rs := [.tmp 8, .tmp 9, .tmp 10, .tmp 11]) rfl (by simp) (.tmp (.tmp (.tmp (.tmp .nil))))) rfl ?_
          rw [HE.out]
          exact ⟨_, _, rfl, Kd.S_R HS8.out, Kd.R_nil _ _ _ _ _, HB8.out⟩
        · have h8' : ¬ (8 : Int) ≤ (xs2.length : Int) := by omega
          have HE2 := HE.out
          rw [if_neg (by simp), if_neg h8] at HE2
          replace HE := hd HE2
          clear HE2 HJ
          go_wp2_with fail
          refine bodyPost_ret (results_list (rs := [.tmp 8, .tmp 9, .tmp 10, .tmp 11]) rfl (by simp) (.tmp (.tmp (.tmp (.tmp .nil))))) rfl ?_
          rw [HE.out]
          exact ⟨_, _, rfl, Kd.S_R HS8.out, Kd.R_nil _ _ _ _ _, HB8.out⟩
set_option maxRecDepth 100000 in
set_option maxHeartbeats 2000000 in
theorem look_bad (A : Option Addr) (c : Nat) (l : List S44) (cl rq ak : Int) (w : World) (hr : Kd.C k44 w A l.length l)
    (h : rightB l = false ∨ (rightB l = true ∧ (decide (cl < 1) = true ∨ (decide (cl < 1) = false ∧ (decide (4611686018427387904 < cl) = true ∨ (decide (4611686018427387904 < cl) = false ∧ (decide (rq < 1) = true ∨ (decide (rq < 1) = false ∧ (decide (4611686018427387904 < rq) = true ∨ (decide (4611686018427387904 < rq) = false ∧ (decide (ak < 0) = true ∨ (decide (ak < 0) = false ∧ decide (rq ≤ ak) = true)))))))))))) :
    Calls Try.prog 10 #[.slice A l.length c, .int .i64 cl, .int .i64 rq, .int .i64 ak] w fun e w' => ∃ v0_ v2_ : Value, e = .returned (.tuple #[v0_, .int .u8 0, v2_, .int .i64 2]) ∧
      Kd.R k44 44 w' w.heap.size (fun _ => True) v0_ [] ∧ Kd.R (Kd.int .u8) 5 w' w.heap.size (fun k_ => some k_ ≠ v0_.ownBlock) v2_ [] ∧ Below w.heap.size w w' := by
  have HR := hd hr
  clear hr
  rcases h with h | ⟨h, h1 | ⟨h1, h2 | ⟨h2, h3 | ⟨h3, h4 | ⟨h4, h5 | ⟨h5, h6⟩⟩⟩⟩⟩⟩
  all_goals
    have HRI := hd h
    clear h
    go_enter Try.func10, Try.ntmps10
    go_wp2_with fail
    refine (right_any A c l w HR.out).mono ?_
    rintro e w1 ⟨rfl, hb1⟩
    have HB1 := hd hb1
    clear hb1
    rw [HRI.out]
    go_wp2_with fail
    refine bodyPost_ret (results_list (rs := [.tmp 8, .tmp 9, .tmp 10, .tmp 11]) rfl (by simp) (.tmp (.tmp (.tmp (.tmp .nil))))) rfl ?_
    exact ⟨_, _, rfl, Kd.R_nil _ _ _ _ _, Kd.R_nil _ _ _ _ _, HB1.out⟩
def lookArgsB (cl rq ak : Int) : Bool := !decide (cl < 1) && !decide (4611686018427387904 < cl) && !decide (rq < 1) && !decide (4611686018427387904 < rq) && !decide (ak < 0) && !decide (rq ≤ ak)
def small46B (l : List S46) : Bool := decide (l.length < 4398046511104) && l.all fun x => decide (x.f1.length < 140737488355328)
def small44B (l : List S44) : Bool := decide (l.length < 3518437208883) && l.all fun c => small46B c.f2
theorem small44_iff (l : List S44) : small44B l = true ↔ small44 l := by simp [small44B, small46B, small44, small46]
theorem lookArgs_iff (cl rq ak : Int) : lookArgsB cl rq ak = true ↔ lookArgs cl rq ak := by
  unfold lookArgsB lookArgs
  simp only [Bool.and_eq_true, Bool.not_eq_true', decide_eq_false_iff_not]
  omega
def session_Look.f (l0 : List S44) (a1 a2 a3 : Int) : Option (List S44 × Int × List Int × Int) :=
  if (rightB l0 && lookArgsB a1 a2 a3) = true then (if small44B l0 = true then some (lookGood l0 a1 a2 a3) else none) else some ([], 0, [], 2)
theorem session_Look.calls (A0 : Option Addr) (c0 : Nat) (l0 : List S44) (a1 a2 a3 : Int) (r1 : List S44) (r2 : Int) (r3 : List Int) (r4 : Int) (w : World) (hr0 : Kd.C k44 w A0 l0.length l0) (hc0 : l0.length ≤ c0) (h : session_Look.f l0 a1 a2 a3 = some (r1, r2, r3, r4)) :
    Calls Try.prog 10 #[.slice A0 l0.length c0, .int .i64 a1, .int .i64 a2, .int .i64 a3] w fun e w' => ∃ v0_ v2_ : Value, e = .returned (.tuple #[v0_, .int .u8 r2, v2_, .int .i64 r4]) ∧
      Kd.R k44 44 w' w.heap.size (fun _ => True) v0_ r1 ∧ Kd.R (Kd.int .u8) 5 w' w.heap.size (fun k_ => some k_ ≠ v0_.ownBlock) v2_ r3 ∧ Below w.heap.size w w' := by
  unfold session_Look.f at h
  by_cases hc : (rightB l0 && lookArgsB a1 a2 a3) = true
  · rw [if_pos hc] at h
    simp only [Bool.and_eq_true] at hc
    by_cases hs : small44B l0 = true
    · rw [if_pos hs] at h
      have e := Option.some.inj h
      have h1 := look_good A0 c0 l0 a1 a2 a3 w hr0 hc.1 ((lookArgs_iff _ _ _).1 hc.2) ((small44_iff _).1 hs) hc0
      rw [e] at h1
      exact h1
    · rw [if_neg hs] at h
      cases h
  · rw [if_neg hc] at h
    cases h
    refine look_bad A0 c0 l0 a1 a2 a3 w hr0 ?_
    cases h0 : rightB l0 with
    | false => exact .inl rfl
    | true =>
      refine .inr ⟨rfl, ?_⟩
      rw [h0, Bool.true_and] at hc
      unfold lookArgsB at hc
      cases h1 : decide (a1 < 1) with
      | true => exact .inl rfl
      | false =>
        refine .inr ⟨rfl, ?_⟩
        cases h2 : decide (4611686018427387904 < a1) with
        | true => exact .inl rfl
        | false =>
          refine .inr ⟨rfl, ?_⟩
          cases h3 : decide (a2 < 1) with
          | true => exact .inl rfl
          | false =>
            refine .inr ⟨rfl, ?_⟩
            cases h4 : decide (4611686018427387904 < a2) with
            | true => exact .inl rfl
            | false =>
              refine .inr ⟨rfl, ?_⟩
              cases h5 : decide (a3 < 0) with
              | true => exact .inl rfl
              | false =>
                refine .inr ⟨rfl, ?_⟩
                rw [h1, h2, h3, h4, h5] at hc
                simpa using hc
end Go.Proofs.Ytafnjlgdjhegaaa.Pr
