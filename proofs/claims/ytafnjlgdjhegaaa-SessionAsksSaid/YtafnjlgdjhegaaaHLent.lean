/-
  LentBytes and KeptBytes, with the room that lies behind the slice. LentBytes' walk: out of the print's (wip/09/gen_lent.py).
-/
import Derived.Test.YtafnjlgdjhegaaaG
import Derived.Test.YtafnjlgdjhegaaaPr9
import Derived.Test.YtafnjlgdjhegaaaPr5
namespace Go.Proofs.Ytafnjlgdjhegaaa.Pr
open Go.RowKit Go.Proofs.YtafnjlgdjhegaaaW.PrintWords Go.Proofs.YtafnjlgdjhegaaaW.PrintLast Go.Proofs.YtafnjlgdjhegaaaW.PrintMore Go.Proofs.YtafnjlgdjhegaaaG
set_option linter.unusedVariables false
set_option linter.unusedSimpArgs false
set_option maxHeartbeats 8000000 in
set_option maxRecDepth 100000 in
theorem lent_any (A0 : Option Addr) (c0 : Nat) (l0 : List Int) (w : World) (hr0 : Kd.C (Kd.int .u8) w A0 l0.length l0) (hc0 : l0.length ≤ c0) (hl : l0.length + 3 < 140737488355328) :
    Calls Try.prog 9 #[.slice A0 l0.length c0] w fun e w' => ∃ (B : Option Addr) (d : Nat), e = .returned (.slice B l0.length d) ∧ (l0 ++ [77, 78, 79]).length ≤ d ∧ Kd.C (Kd.int .u8) w' B (l0 ++ [77, 78, 79]).length (l0 ++ [77, 78, 79]) ∧ Below w.heap.size w w' := by
  have HR0 := Aside0.mk hr0
  have HC0 := Aside0.mk hc0
  clear hr0 hc0
  have HB := Aside0.mk (Below.refl w.heap.size w)
  have A2 : Aside0 (musterlow_CopyBytes.f l0 = some l0) := Aside0.mk (by unfold musterlow_CopyBytes.f; rw [if_pos (by simp; omega)]; rfl)
  obtain ⟨t176, ht⟩ : ∃ t, l0 = t := ⟨_, rfl⟩
  replace A2 : Aside0 (musterlow_CopyBytes.f l0 = some t176) := Aside0.mk (A2.out.trans (by rw [ht]))
  obtain ⟨y179, hy179⟩ : ∃ y_ : List Int, y_ = ([77, 78, 79] : List Int) := ⟨_, rfl⟩
  have LMc3 : Aside0 (t176.length + y179.length < 140737488355328) := Aside0.mk (by rw [← ht, hy179]; exact hl)
  obtain ⟨y182, hy182⟩ : ∃ y_ : List Int, y_ = (t176 ++ y179) := ⟨_, rfl⟩
  have LN : Aside0 (l0.length ≤ y182.length) := Aside0.mk (by rw [hy182, ← ht]; simp)
  have HE : Aside0 (y182 = l0 ++ [77, 78, 79]) := Aside0.mk (by rw [hy182, ← ht, hy179])
  have Ny179 := Aside0.mk hy179
  have Ny182 := Aside0.mk hy182
  clear hy179 hy182 ht
  go_enter Try.func9, Try.ntmps9
  go_wp2_with (first | ((with_reducible refine gate_callee (f := 34) rfl ?_); refine goesL_ (some 5) rfl rfl Try.func34 (by kernel_rfl) rfl #[.slice A0 l0.length c0] rfl (by (try simp only [List.map_toArray, List.map_cons, List.map_nil]); first | done | rfl | (simp only [List.length_drop, List.length_take]; rfl)) ?_; (with_reducible refine (musterlow_CopyBytes.calls _ _ l0 t176 _ ?side1 ?side2 A2.out).mono ?_); (case side1 => repeat (first | exact HR0.out | (with_reducible refine Kd.C_alloc ?_ _) | (with_reducible refine Kd.C_drewN ?_ _) | (with_reducible refine Kd.C_drew ?_))); (case side2 => exact HC0.out); rintro e w6 ⟨v177, rfl, ho0, hb⟩; refine ⟨_, rfl, ?_⟩; have n0_ := Aside0.mk (Kd.R_lower ho0 (below_size (by repeat (first | (with_reducible first | exact HB.out | apply below_alloc | apply pw_below_drewN | apply below_drew1) | exact HB.out)))); have n1_ := Aside0.mk (below_step (by repeat (first | (with_reducible first | exact HB.out | apply below_alloc | apply pw_below_drewN | apply below_drew1) | exact HB.out)) hb); clear HB; have HO178 := n0_; have HB := n1_; clear n0_ n1_; (try clear hb); (try clear hb2); (try clear hk); (try clear hi); (try clear ho0)) | ((with_reducible refine gate_dst (N := 6) rfl ?_); refine Kd.R_lit (Kd.int .u8) _ 5 ?hg (N := 6) ?hd (xs := ([77, 78, 79] : List Int)) (inner := [.int .u8 77, .int .u8 78, .int .u8 79]) (ok := fun _ => True) (okp := fun _ => True) ?hr ?hp (fun _ hk => hk) trivial (Below.refl _ _) (Nat.le_refl _) (by simp) ?_; (case hd => rfl); (case hg => rfl); (case hr => first | (go_simp; done) | (go_simp; rfl)); (case hp => exact (Reps.one (show Kd.M (Kd.int .u8) _ _ _ 77 [.int .u8 77] from rfl) (Reps.one (show Kd.M (Kd.int .u8) _ _ _ 78 [.int .u8 78] from rfl) (Reps.one (show Kd.M (Kd.int .u8) _ _ _ 79 [.int .u8 79] from rfl) (Reps.none _ _))))); intro v180 w7 ho8 hb hg_ hnew_; clear hg_ hnew_; (first | rw [← Ny179.out] at ho8 | (simp only [Int.reduceToNat] at ho8; rw [← Ny179.out] at ho8)); have n0_ := Aside0.mk (Kd.R_elder' (by (with_reducible repeat (first | apply Kd.R_alloc | apply Kd.R_drewN | apply Kd.R_drew)); exact HO178.out) (Kd.R_base ho8) hb); have n1_ := Aside0.mk (Kd.R_lower (Kd.R_new' ho8 (Kd.R_lt (by (with_reducible repeat (first | apply Kd.R_alloc | apply Kd.R_drewN | apply Kd.R_drew)); exact HO178.out))) (below_size (by repeat (first | (with_reducible first | exact HB.out | apply below_alloc | apply pw_below_drewN | apply below_drew1) | exact HB.out)))); have n2_ := Aside0.mk (below_step (by repeat (first | (with_reducible first | exact HB.out | apply below_alloc | apply pw_below_drewN | apply below_drew1) | exact HB.out)) hb); clear HO178; clear HB; have HO178 := n0_; have HO181 := n1_; have HB := n2_; clear n0_ n1_ n2_; clear hb ho8; obtain ⟨Ao10, co10, eo10⟩ := Kd.R_slice HO181.out; subst eo10) | ((with_reducible refine gate_builtin (b := .append) (xs := #[.tmp 5, .tmp 6]) rfl ?_); at_builtin; refine Kd.R_append_rows (Kd.int .u8) (w0 := w) w.heap.size rfl (.tmp 5) (.tmp 6) 23 5 (.int .u8 0) 1 rfl Try.underlying23 info5 rfl (by decide) (by omega) v177 t176 y179 _ _ _ (fun k_ => some k_ ≠ (.slice Ao10 y179.length co10 : Value).ownBlock) (fun _ => False) rfl rfl ?aO ?aR (fun _ _ h => h) (fun _ h => h.elim) ?aF ?aB ?aS ?aL ?_; (case aR => repeat (first | exact (Kd.R_reads' HO181.out).2.2 | (with_reducible refine Kd.C_alloc ?_ _) | (with_reducible refine Kd.C_drewN ?_ _) | (with_reducible refine Kd.C_drew ?_))); (case aB => exact (by repeat (first | (with_reducible first | exact HB.out | apply below_alloc | apply pw_below_drewN | apply below_drew1) | exact HB.out))); (case aF => exact (fun k_ hk => Kd.fresh' (Kd.R_lt (by (with_reducible repeat (first | apply Kd.R_alloc | apply Kd.R_drewN | apply Kd.R_drew)); exact HO181.out)) k_ hk)); (case aO => exact (by (with_reducible repeat (first | apply Kd.R_alloc | apply Kd.R_drewN | apply Kd.R_drew)); exact Kd.R_mono HO178.out (fun _ hk => hk.2))); (case aS => exact (below_size (by repeat (first | (with_reducible first | exact HB.out | apply below_alloc | apply pw_below_drewN | apply below_drew1) | exact HB.out)))); (case aL => have := LMc3.out; omega); intro v183 w9 ho hb hg hat; rw [← Ny182.out] at ho; have n0_ := Aside0.mk (Kd.R_after (ok := (fun _ => True)) (by (with_reducible repeat (first | apply Kd.R_alloc | apply Kd.R_drewN | apply Kd.R_drew)); exact HO181.out) hg hat); have n1_ := Aside0.mk (hb); have n2_ := Aside0.mk (ho); clear HO181; clear HB; clear HO178; have HO181 := n0_; have HB := n1_; have HO184 := n2_; clear n0_ n1_ n2_; clear ho hb hg hat; obtain ⟨Ao11, co11, eo11⟩ := Kd.R_slice HO184.out; subst eo11; obtain ⟨i012, hi012, _, hsz12, _⟩ := info_parts info5; have hcut12 := cut_to (P := Try.prog) 23 5 .i64 Try.underlying23 hi012 Ao11 y182.length co11 (l0.length : Int) (by omega) (by have := LN.out; omega) (Kd.R_reads' HO184.out).2.1; rw [Int.toNat_natCast] at hcut12; clear hi012 hsz12))
  go_ret
  rw [← HE.out]
  exact ⟨_, _, rfl, (Kd.R_reads' HO184.out).2.1, (Kd.R_reads' (show Kd.R (Kd.int .u8) 5 _ w.heap.size _ _ y182 from by (with_reducible repeat (first | apply Kd.R_alloc | apply Kd.R_drewN | apply Kd.R_drew)); exact HO184.out)).2.2, by repeat (first | (with_reducible first | exact HB.out | apply below_alloc | apply pw_below_drewN | apply below_drew1) | exact HB.out)⟩
theorem up_to (A : Option Addr) (n c j : Nat) (hj : j ≤ c) (W : World) : (Instr.slice 23 (.slice A n c) none (some (.int .i64 (j : Int))) none).run Try.prog W = .ok (.slice A j c) W := by
  obtain ⟨i, hi, _, hsz, _⟩ := info_parts info5
  have hel : Try.prog.elem 23 = 5 := by simp [Program.elem, Try.underlying23]
  have hu : Try.prog.underlying 23 = some (.slice (Try.prog.elem 23)) := by rw [hel]; exact Try.underlying23
  have ha : (A.map fun x => x.add 0) = A := by cases A <;> simp [Addr.add]
  rw [run_slice_h W 23 A n c hu .i64 (j : Int) (by omega) (by omega), hel]
  simp [sizeOf, typeInfo, hi, hsz, sliced, Result.andThen, ha]
set_option maxHeartbeats 1000000 in
theorem kept_any (A : Option Addr) (c : Nat) (l : List Int) (B : Option Addr) (d : Nat) (w : World) (hr : Kd.C (Kd.int .u8) w A (l ++ [77, 78, 79]).length (l ++ [77, 78, 79])) (hc : (l ++ [77, 78, 79]).length ≤ c) (hb : Kd.C (Kd.int .u8) w B l.length l) (hd' : l.length ≤ d) (hl : l.length + 3 < 140737488355328) :
    Calls Try.prog 18 #[.slice A l.length c, .slice B l.length d] w fun e w' => e = .returned (.bool true) ∧ Below w.heap.size w w' := by
  have hlen : (l ++ [77, 78, 79]).length = l.length + 3 := by simp
  have ht := Kd.C_take (m := l.length) hr (by simp)
  rw [List.take_append_of_le_length (Nat.le_refl _), List.take_length] at ht
  have hx : ∀ (i : Nat) (v : Int), i < 3 → ([77, 78, 79] : List Int).getD i 0 = v → ∃ ad, A = some ad ∧ w.cell? (ad.add (l.length + i)) = some (.int .u8 v) := by
    intro i v hi hv
    obtain ⟨ad, e, hx⟩ := Kd.at_int hr ((l.length + i : Nat) : Int) (by omega) (by rw [hlen]; omega)
    refine ⟨ad, e, ?_⟩
    rw [Int.toNat_natCast] at hx
    rw [hx]
    have e2 : rd (l ++ [77, 78, 79]) ((l.length + i : Nat) : Int) = v := by
      rw [← hv]
      unfold rd
      rw [Int.toNat_natCast, List.getD_eq_getElem?_getD, List.getD_eq_getElem?_getD, List.getElem?_append_right (by omega), Nat.add_sub_cancel_left]
    rw [e2]
  obtain ⟨ad, rfl, hx0⟩ := hx 0 77 (by omega) rfl
  obtain ⟨ad1, e1, hx1⟩ := hx 1 78 (by omega) rfl
  obtain ⟨ad2, e2, hx2⟩ := hx 2 79 (by omega) rfl
  cases e1
  cases e2
  rw [Nat.add_zero] at hx0
  have HT := hd ht
  have HBR := hd hb
  have hs : musterlow_SameBytes.f l l = some true := by unfold musterlow_SameBytes.f; rw [beq_self_eq_true]
  clear hr hx ht hb
  have j3e : wrap64 ((l.length : Int) + 3) = ((l.length + 3 : Nat) : Int) := by unfold wrap64; omega
  have j1e : wrap64 ((l.length : Int) + 1) = ((l.length + 1 : Nat) : Int) := by unfold wrap64; omega
  have j2e : wrap64 ((l.length : Int) + 2) = ((l.length + 2 : Nat) : Int) := by unfold wrap64; omega
  have hji3w : IntKind.i64.wrap ((l.length : Int) + 3) = ((l.length + 3 : Nat) : Int) := (i64_w _).trans j3e
  have hji1w : IntKind.i64.wrap ((l.length : Int) + 1) = ((l.length + 1 : Nat) : Int) := (i64_w _).trans j1e
  have hji2w : IntKind.i64.wrap ((l.length : Int) + 2) = ((l.length + 2 : Nat) : Int) := (i64_w _).trans j2e
  have hcut := up_to (some ad) l.length c (l.length + 3) (by omega)
  clear j3e j1e j2e hlen
  have hlc : l.length ≤ c := by simp at hc; omega
  clear hc
  obtain ⟨m1, hm1⟩ : ∃ m, l.length + 1 = m := ⟨_, rfl⟩
  obtain ⟨m2, hm2⟩ : ∃ m, l.length + 2 = m := ⟨_, rfl⟩
  obtain ⟨m3, hm3⟩ : ∃ m, l.length + 3 = m := ⟨_, rfl⟩
  rw [hm1] at hx1 hji1w
  rw [hm2] at hx2 hji2w
  rw [hm3] at hji3w hcut
  have b0 : l.length < m3 := by omega
  have b1 : m1 < m3 := by omega
  have b2 : m2 < m3 := by omega
  have b3 : m3 < 140737488355328 := by omega
  clear hm1 hm2 hm3 hl
  go_enter Try.func18, Try.ntmps18
  go_wp2_with fail
  refine (musterlow_SameBytes.calls (some ad) c l B d l true w HT.out hlc HBR.out hd' hs).mono ?_
  rintro e w1 ⟨rfl, hdr⟩
  obtain ⟨nd, rfl⟩ := hdr
  go_wp2
  go_ret
  exact ⟨rfl, pw_below_drewN (Below.refl _ _) _⟩
end Go.Proofs.Ytafnjlgdjhegaaa.Pr
