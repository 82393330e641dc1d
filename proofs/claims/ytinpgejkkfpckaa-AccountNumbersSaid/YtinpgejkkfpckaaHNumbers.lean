/-
  musterlaw27.AccountNumbers, by hand: the chapter's fixed examples.
-/
import Derived.Test.YtinpgejkkfpckaaQNumbers
import Derived.Test.YtinpgejkkfpckaaHAwake
import Derived.Deep.CutBlock
import Derived.Deep.DeepCutAuto
namespace Go.Proofs.Ytinpgejkkfpckaa.Pr
open Go.RowKit Go.Proofs.YtinpgejkkfpckaaW.PrintWords Go.Proofs.YtinpgejkkfpckaaW.PrintLast Go.Proofs.YtinpgejkkfpckaaW.PrintMore Go.Proofs.YtinpgejkkfpckaaG
set_option linter.unusedVariables false
set_option linter.unusedSimpArgs false
theorem holdN {p} (h : Hd p) : p := h.out
theorem used_bad {n : Int} {o : Bool} {fr tt : Int} (h : wrongP fr tt = 2) : usedR n o fr tt = .tuple #[.int .i64 0, .bool false, .int .i64 2] := by
  unfold usedR
  rw [h, if_neg (by decide)]
theorem n_i1 : ∀ x ∈ ([9223372036854775807, 1] : List Int), i64 x := by
  intro x hx
  simp only [List.mem_cons, List.not_mem_nil, or_false] at hx
  rcases hx with rfl | rfl <;> exact ⟨by decide, by decide⟩
theorem n_i2 : ∀ x ∈ ([-5, 3, 9223372036854775804] : List Int), i64 x := by
  intro x hx
  simp only [List.mem_cons, List.not_mem_nil, or_false] at hx
  rcases hx with rfl | rfl | rfl <;> exact ⟨by decide, by decide⟩
theorem nums_any (w : World) (l : List Int) (hl : l.length ≤ 9223372036854775807) : Kd.C (Kd.int .i64) (w.alloc (.cells (l.map (Value.int .i64)).toArray 2)) (some ⟨w.heap.size, 0, none⟩) l.length l := by
  refine ⟨rfl, hl, fun _ => ⟨_, rfl, fun j p hp => ?_⟩⟩
  refine ⟨[.int .i64 p], rfl, rfl, fun i u hu => ?_⟩
  have hi : i = 0 := by
    have := (List.getElem?_eq_some_iff.1 hu).1
    simp at this
    exact this
  subst hi
  obtain rfl : Value.int .i64 p = u := Option.some.inj hu
  rw [add_off, Nat.zero_add, World.cell?_alloc_new]
  have hz : (Kd.int .i64).sz = 1 := rfl
  simp [hz, hp]
def fineE : S36 := ⟨1, 1, 0, ⟨#[]⟩, ⟨#[]⟩, 0, 0, 0⟩
set_option maxRecDepth 100000 in
set_option maxHeartbeats 4000000 in
theorem numbers_walk (w : World) : Calls Try.prog 4 #[] w fun e w' => e = .returned (.bool true) ∧ Below w.heap.size w w' := by
  have hu36 := Try.underlying36
  go_enter Try.func4, Try.ntmps4
  go_wp2_with fail
  refine (new_st w (fun k => w.heap.size ≤ k) (fun _ h => h)).mono ?_
  rintro e w1 ⟨s, rfl, hs, hS, hb⟩
  have HB1 := hd hb
  have S1 := hd hS.bound
  clear hb hS
  go_wp2_with fail
  refine (musterlaw27_job.calls _ w1 rfl).mono ?_
  rintro e w2 ⟨v, rfl, hR, hb⟩
  obtain ⟨cj, hvj⟩ := Kd.R_slice hR
  obtain ⟨cj', hvj'⟩ := hvj
  subst hvj'
  obtain ⟨ad, rfl, _⟩ := at_T36 (Kd.R_reads' hR).2.2 0 (by decide) (by decide)
  obtain ⟨gj, rfl⟩ := Kd.R_head hR
  have HB2 : Hd (Below w.heap.size w w2) := hd (below_then HB1.out HB1.out.size hb)
  have HS2 := hd (S1.out.below hb)
  have HJ2 := hd (Kd.R_mono (Kd.R_bound hR) (ok' := fun k => w1.heap.size ≤ k ∧ k < w2.heap.size) fun k hk => ⟨hk.2.1, hk.2.2.1⟩)
  have HW1 : Hd (w.heap.size ≤ w1.heap.size) := hd HB1.out.size
  clear hb hR HB1 S1 hs
  go_upto_block 0 with fail
  go_cut [61] from 62 to 68 (fun iv wr => ∃ okS : Nat → Prop, iv = .int .i64 2 ∧ Hd (∀ k, okS k → w.heap.size ≤ k) ∧ Hd (St wr w.heap.size okS s P2 [7]) ∧ Hd (Below w.heap.size w wr))
  case first =>
    go_wp2_with fail
    go_loopw [61] (fun iv wr => ∃ i : Nat, iv = .int .i64 (i : Int) ∧ ((i = 0 ∧ ∃ okS : Nat → Prop, Hd (St wr w.heap.size okS s [] []) ∧ Hd (∀ k, okS k → w.heap.size ≤ k ∧ ¬ (w1.heap.size ≤ k ∧ k < w2.heap.size))) ∨ (i = 1 ∧ ∃ okS : Nat → Prop, Hd (St wr w.heap.size okS s [pastS j0] [7]) ∧ Hd (∀ k, okS k → w.heap.size ≤ k ∧ ¬ (w1.heap.size ≤ k ∧ k < w2.heap.size))) ∨ (i = 2 ∧ ∃ okS : Nat → Prop, Hd (St wr w.heap.size okS s P2 [7]) ∧ Hd (∀ k, okS k → w.heap.size ≤ k ∧ ¬ (w1.heap.size ≤ k ∧ k < w2.heap.size)))) ∧ Hd (Below w.heap.size w wr) ∧ Hd (Kd.R k36 36 wr w1.heap.size (fun k => w1.heap.size ≤ k ∧ k < w2.heap.size) (.slice (some ⟨gj, 0, none⟩) 2 cj') [j0, j1]) ∧ Hd (w2.heap.size ≤ wr.heap.size)) (fun iv _ => 2 - (intOf iv).toNat)
    case atStart => exact ⟨0, rfl, .inl ⟨rfl, _, HS2, hd (fun k h => ⟨h.1, fun h2 => by omega⟩)⟩, HB2, HJ2, hd (Nat.le_refl _)⟩
    case round =>
      clear HS2 HB2 HJ2
      obtain ⟨i, rfl, hcase, HB, HJ, HZ2⟩ := hrel
      rcases hcase with ⟨rfl, okS, HS, HOK⟩ | ⟨rfl, okS, HS, HOK⟩ | ⟨rfl, okS, HS, HOK⟩
      · skip
        obtain ⟨_, hcj, hCj⟩ := Kd.R_reads' HJ.out
        obtain ⟨a0, a1, a2, a3, a4, a5, a6, a7⟩ := past_cells hCj 0 (by decide) 0 (by first | rfl | simp [Addr.add]) j0 rfl
        simp only [Nat.zero_add, Nat.reduceAdd] at a0 a1 a2 a3 a4 a5 a6 a7
        clear hcj hCj
        go_wp2_with (first | ((with_reducible refine gate_dst (N := 3) rfl ?_); refine box_event ?hg (N := 3) ?hd (cs := #[.int .i64 0, .int .u8 0, .int .i64 0, .string (⟨#[]⟩ : ByteArray), .string (⟨#[]⟩ : ByteArray), .int .i64 0, .int .i64 0, .int .u8 0]) (t := 36) ?hr ?_; (case hd => rfl); (case hg => rfl); (case hr => first | (go_simp; done) | (go_simp; rfl)); intro g1 hg w3 hbox hb; have HG := hd hg; have HP2 := hd hbox; have HB2 := hd (below_step HB.out hb); have HS2 := hd (HS.out.bound.below hb); have HJ2 := hd (Kd.R_below HJ.out hb); have HZW : Hd (wr.heap.size ≤ w3.heap.size) := hd hb.size; clear hg hbox hb) | ((with_reducible refine gate_store (t := 36) (p := 3) rfl ?_); refine wpList_store_row rfl 36 (.tmp 3) (.tmp 64) rfl g1 #[.int .i64 j0.f0, .int .u8 j0.f1, .int .i64 j0.f2, .string j0.f3, .string j0.f4, .int .i64 j0.f5, .int .i64 j0.f6, .int .u8 j0.f7] rfl rfl 36 _ HP2.out (by kernel_rfl) rfl (by simp [Value.oneCell']) ?_; refine holdN ?_))
        refine ⟨?_⟩
        have HP3 := hd (setRow_heap w3 g1 _ #[.int .i64 j0.f0, .int .u8 j0.f1, .int .i64 j0.f2, .string j0.f3, .string j0.f4, .int .i64 j0.f5, .int .i64 j0.f6, .int .u8 j0.f7] 36 (0, 0) HP2.out)
        have HB3 : Hd (Below w.heap.size w (w3.setRow g1 #[.int .i64 j0.f0, .int .u8 j0.f1, .int .i64 j0.f2, .string j0.f3, .string j0.f4, .int .i64 j0.f5, .int .i64 j0.f6, .int .u8 j0.f7])) := hd (below_setRow HB2.out (by have := HG.out; have := HB.out.size; omega) _)
        have HS3 := hd ((HS2.out.step (w' := w3.setRow g1 #[.int .i64 j0.f0, .int .u8 j0.f1, .int .i64 j0.f2, .string j0.f3, .string j0.f4, .int .i64 j0.f5, .int .i64 j0.f6, .int .u8 j0.f7]) fun k hk hl => setRow_other _ _ _ _ (fun e => by have := HG.out; have h_ := hk.2; omega)).mono fun k hk => hk.1)
        have HJ3 := hd (Kd.R_step (w1 := w3.setRow g1 #[.int .i64 j0.f0, .int .u8 j0.f1, .int .i64 j0.f2, .string j0.f3, .string j0.f4, .int .i64 j0.f5, .int .i64 j0.f6, .int .u8 j0.f7]) HJ2.out fun k hk hl => setRow_other _ _ _ _ (fun e => by have := HG.out; have h_ := hk.2; have := HZ2.out; omega))
        have HZ3 : Hd (wr.heap.size ≤ (w3.setRow g1 #[.int .i64 j0.f0, .int .u8 j0.f1, .int .i64 j0.f2, .string j0.f3, .string j0.f4, .int .i64 j0.f5, .int .i64 j0.f6, .int .u8 j0.f7]).heap.size) := hd (by rw [setRow_size]; exact HZW.out)
        clear HP2 HB2 HS2 HJ2 a0 a1 a2 a3 a4 a5 a6 a7
        generalize w3.setRow g1 #[.int .i64 j0.f0, .int .u8 j0.f1, .int .i64 j0.f2, .string j0.f3, .string j0.f4, .int .i64 j0.f5, .int .i64 j0.f6, .int .u8 j0.f7] = w4 at HP3 HB3 HS3 HJ3 HZ3 ⊢
        have r0 : w4.cell? ⟨g1, 0, none⟩ = some (.int .i64 j0.f0) := (blk_cell HP3.out 0).trans rfl
        have r1 : w4.cell? ⟨g1, 1, none⟩ = some (.int .u8 j0.f1) := (blk_cell HP3.out 1).trans rfl
        have r2 : w4.cell? ⟨g1, 2, none⟩ = some (.int .i64 j0.f2) := (blk_cell HP3.out 2).trans rfl
        have r3 : w4.cell? ⟨g1, 3, none⟩ = some (.string j0.f3) := (blk_cell HP3.out 3).trans rfl
        have r4 : w4.cell? ⟨g1, 4, none⟩ = some (.string j0.f4) := (blk_cell HP3.out 4).trans rfl
        have r5 : w4.cell? ⟨g1, 5, none⟩ = some (.int .i64 j0.f5) := (blk_cell HP3.out 5).trans rfl
        have r6 : w4.cell? ⟨g1, 6, none⟩ = some (.int .i64 j0.f6) := (blk_cell HP3.out 6).trans rfl
        have r7 : w4.cell? ⟨g1, 7, none⟩ = some (.int .u8 j0.f7) := (blk_cell HP3.out 7).trans rfl
        go_wp2_with fail
        refine (take_st (ok := fun k => (okS k ∧ k < wr.heap.size) ∨ w4.heap.size ≤ k) (HS3.out.mono fun k h => .inl h) (fun k h => .inr h) HB3.out.size (by exact List.Pairwise.nil) (by decide) (pastS j0)).mono ?_
        rintro e w5 ht
        rw [t0] at ht
        obtain ⟨rfl, hS, hO⟩ := ht
        have HB5 : Hd (Below w.heap.size w w5) := hd (hO.to_below (fun k h => h.elim (fun h => (HOK.out k h.1).1) (fun h => Nat.le_trans HB3.out.size h)) HB3.out HB3.out.size)
        have HJ5 := hd (Kd.R_step HJ3.out fun k hk hl => hO.block k hl (fun h => h.elim (fun h => by have h_ := (HOK.out k h.1).2; omega) (fun h => by have := HZ3.out; have := HZ2.out; omega)))
        have HS5 := hd hS
        have HOK5 : Hd (∀ k, ((okS k ∧ k < wr.heap.size) ∨ w4.heap.size ≤ k) → w.heap.size ≤ k ∧ ¬ (w1.heap.size ≤ k ∧ k < w2.heap.size)) := hd fun k h => h.elim (fun h => HOK.out k h.1) (fun h => ⟨Nat.le_trans HB3.out.size h, fun h2 => by have := HZ3.out; have := HZ2.out; omega⟩)
        have HZ5 : Hd (w2.heap.size ≤ w5.heap.size) := hd (by have := hO.size; have := HZ3.out; have := HZ2.out; omega)
        clear hS hO HP3 HB3 HS3 HJ3 r0 r1 r2 r3 r4 r5 r6 r7
        go_wp2
        go_roundw
        case rel => exact ⟨1, by go_num, .inr (.inl ⟨rfl, _, HS5, HOK5⟩), HB5, HJ5, HZ5⟩
        case measure => simp [intOf]
      · skip
        obtain ⟨_, hcj, hCj⟩ := Kd.R_reads' HJ.out
        obtain ⟨a0, a1, a2, a3, a4, a5, a6, a7⟩ := past_cells hCj 1 (by decide) 8 (by first | rfl | simp [Addr.add]) j1 rfl
        simp only [Nat.zero_add, Nat.reduceAdd] at a0 a1 a2 a3 a4 a5 a6 a7
        clear hcj hCj
        go_wp2_with (first | ((with_reducible refine gate_dst (N := 3) rfl ?_); refine box_event ?hg (N := 3) ?hd (cs := #[.int .i64 0, .int .u8 0, .int .i64 0, .string (⟨#[]⟩ : ByteArray), .string (⟨#[]⟩ : ByteArray), .int .i64 0, .int .i64 0, .int .u8 0]) (t := 36) ?hr ?_; (case hd => rfl); (case hg => rfl); (case hr => first | (go_simp; done) | (go_simp; rfl)); intro g1 hg w3 hbox hb; have HG := hd hg; have HP2 := hd hbox; have HB2 := hd (below_step HB.out hb); have HS2 := hd (HS.out.bound.below hb); have HJ2 := hd (Kd.R_below HJ.out hb); have HZW : Hd (wr.heap.size ≤ w3.heap.size) := hd hb.size; clear hg hbox hb) | ((with_reducible refine gate_store (t := 36) (p := 3) rfl ?_); refine wpList_store_row rfl 36 (.tmp 3) (.tmp 64) rfl g1 #[.int .i64 j1.f0, .int .u8 j1.f1, .int .i64 j1.f2, .string j1.f3, .string j1.f4, .int .i64 j1.f5, .int .i64 j1.f6, .int .u8 j1.f7] rfl rfl 36 _ HP2.out (by kernel_rfl) rfl (by simp [Value.oneCell']) ?_; refine holdN ?_))
        refine ⟨?_⟩
        have HP3 := hd (setRow_heap w3 g1 _ #[.int .i64 j1.f0, .int .u8 j1.f1, .int .i64 j1.f2, .string j1.f3, .string j1.f4, .int .i64 j1.f5, .int .i64 j1.f6, .int .u8 j1.f7] 36 (0, 0) HP2.out)
        have HB3 : Hd (Below w.heap.size w (w3.setRow g1 #[.int .i64 j1.f0, .int .u8 j1.f1, .int .i64 j1.f2, .string j1.f3, .string j1.f4, .int .i64 j1.f5, .int .i64 j1.f6, .int .u8 j1.f7])) := hd (below_setRow HB2.out (by have := HG.out; have := HB.out.size; omega) _)
        have HS3 := hd ((HS2.out.step (w' := w3.setRow g1 #[.int .i64 j1.f0, .int .u8 j1.f1, .int .i64 j1.f2, .string j1.f3, .string j1.f4, .int .i64 j1.f5, .int .i64 j1.f6, .int .u8 j1.f7]) fun k hk hl => setRow_other _ _ _ _ (fun e => by have := HG.out; have h_ := hk.2; omega)).mono fun k hk => hk.1)
        have HJ3 := hd (Kd.R_step (w1 := w3.setRow g1 #[.int .i64 j1.f0, .int .u8 j1.f1, .int .i64 j1.f2, .string j1.f3, .string j1.f4, .int .i64 j1.f5, .int .i64 j1.f6, .int .u8 j1.f7]) HJ2.out fun k hk hl => setRow_other _ _ _ _ (fun e => by have := HG.out; have h_ := hk.2; have := HZ2.out; omega))
        have HZ3 : Hd (wr.heap.size ≤ (w3.setRow g1 #[.int .i64 j1.f0, .int .u8 j1.f1, .int .i64 j1.f2, .string j1.f3, .string j1.f4, .int .i64 j1.f5, .int .i64 j1.f6, .int .u8 j1.f7]).heap.size) := hd (by rw [setRow_size]; exact HZW.out)
        clear HP2 HB2 HS2 HJ2 a0 a1 a2 a3 a4 a5 a6 a7
        generalize w3.setRow g1 #[.int .i64 j1.f0, .int .u8 j1.f1, .int .i64 j1.f2, .string j1.f3, .string j1.f4, .int .i64 j1.f5, .int .i64 j1.f6, .int .u8 j1.f7] = w4 at HP3 HB3 HS3 HJ3 HZ3 ⊢
        have r0 : w4.cell? ⟨g1, 0, none⟩ = some (.int .i64 j1.f0) := (blk_cell HP3.out 0).trans rfl
        have r1 : w4.cell? ⟨g1, 1, none⟩ = some (.int .u8 j1.f1) := (blk_cell HP3.out 1).trans rfl
        have r2 : w4.cell? ⟨g1, 2, none⟩ = some (.int .i64 j1.f2) := (blk_cell HP3.out 2).trans rfl
        have r3 : w4.cell? ⟨g1, 3, none⟩ = some (.string j1.f3) := (blk_cell HP3.out 3).trans rfl
        have r4 : w4.cell? ⟨g1, 4, none⟩ = some (.string j1.f4) := (blk_cell HP3.out 4).trans rfl
        have r5 : w4.cell? ⟨g1, 5, none⟩ = some (.int .i64 j1.f5) := (blk_cell HP3.out 5).trans rfl
        have r6 : w4.cell? ⟨g1, 6, none⟩ = some (.int .i64 j1.f6) := (blk_cell HP3.out 6).trans rfl
        have r7 : w4.cell? ⟨g1, 7, none⟩ = some (.int .u8 j1.f7) := (blk_cell HP3.out 7).trans rfl
        go_wp2_with fail
        refine (take_st (ok := fun k => (okS k ∧ k < wr.heap.size) ∨ w4.heap.size ≤ k) (HS3.out.mono fun k h => .inl h) (fun k h => .inr h) HB3.out.size (by exact List.pairwise_singleton _ _) (by decide) (pastS j1)).mono ?_
        rintro e w5 ht
        rw [t2] at ht
        obtain ⟨rfl, hS, hO⟩ := ht
        have HB5 : Hd (Below w.heap.size w w5) := hd (hO.to_below (fun k h => h.elim (fun h => (HOK.out k h.1).1) (fun h => Nat.le_trans HB3.out.size h)) HB3.out HB3.out.size)
        have HJ5 := hd (Kd.R_step HJ3.out fun k hk hl => hO.block k hl (fun h => h.elim (fun h => by have h_ := (HOK.out k h.1).2; omega) (fun h => by have := HZ3.out; have := HZ2.out; omega)))
        have HS5 := hd hS
        have HOK5 : Hd (∀ k, ((okS k ∧ k < wr.heap.size) ∨ w4.heap.size ≤ k) → w.heap.size ≤ k ∧ ¬ (w1.heap.size ≤ k ∧ k < w2.heap.size)) := hd fun k h => h.elim (fun h => HOK.out k h.1) (fun h => ⟨Nat.le_trans HB3.out.size h, fun h2 => by have := HZ3.out; have := HZ2.out; omega⟩)
        have HZ5 : Hd (w2.heap.size ≤ w5.heap.size) := hd (by have := hO.size; have := HZ3.out; have := HZ2.out; omega)
        clear hS hO HP3 HB3 HS3 HJ3 r0 r1 r2 r3 r4 r5 r6 r7
        go_wp2
        go_roundw
        case rel => exact ⟨2, by go_num, .inr (.inr ⟨rfl, _, HS5, HOK5⟩), HB5, HJ5, HZ5⟩
        case measure => simp [intOf]
      · go_wp2
        go_meet
        case rel => exact ⟨okS, rfl, hd fun k h => (HOK.out k h).1, HS, HB⟩
  case rest =>
    clear HS2 HB2 HJ2
    obtain ⟨okS, rfl, HOKS, HS, HB⟩ := hcut
    have HF0 : True := trivial
    · skip
      go_wp2_with fail
      refine (used_st HS.out (by decide) 5000 nm 200 300 _ _ (total_sum _ _ _ _ _ (by decide))).mono ?_
      rintro e w10 ⟨rfl, hb⟩
      rw [show totalP P2 [7] nm 200 300 = (800, false) from n_used, show usedR 800 false 200 300 = .tuple #[.int .i64 800, .bool false, .int .i64 0] from rfl]
      replace HB : Hd (Below w.heap.size w w10) := hd (below_then HB.out HB.out.size hb)
      replace HS := hd (HS.out.below hb)
      clear hb
      go_wp2_with fail
      refine (days_st HS.out (by decide) nm 0 1).mono ?_
      rintro e w11 ⟨v, rfl, hR, hb⟩
      rw [n_days] at hR ⊢
      obtain ⟨A1, cA1, rfl, hcA1, hC⟩ := Kd.R_reads hR
      replace HB : Hd (Below w.heap.size w w11) := hd (below_then HB.out HB.out.size hb)
      replace HS := hd (HS.out.below hb)
      have HD := hd hC
      clear hb hR hC
      go_wp2_with fail
      refine (hours_st HS.out (by decide) nm 5 5).mono ?_
      rintro e w12 ⟨v, rfl, hR, hb⟩
      rw [n_none] at hR ⊢
      obtain ⟨A2, cA2, rfl, hcA2, hC⟩ := Kd.R_reads hR
      replace HB : Hd (Below w.heap.size w w12) := hd (below_then HB.out HB.out.size hb)
      replace HS := hd (HS.out.below hb)
      replace HD := hd (Kd.C_below HD.out hb)

      clear hb hR hC
      go_wp2_with fail
      refine (used_st HS.out (by decide) 5000 nm 5 4 _ _ (total_sum _ _ _ _ _ (by decide))).mono ?_
      rintro e w13 ⟨rfl, hb⟩
      rw [used_bad (by decide)]
      replace HB : Hd (Below w.heap.size w w13) := hd (below_then HB.out HB.out.size hb)
      replace HS := hd (HS.out.below hb)
      replace HD := hd (Kd.C_below HD.out hb)
      clear hb
      go_wp2_with fail
      refine (used_st HS.out (by decide) 5000 nm (-1) 4 _ _ (total_sum _ _ _ _ _ (by decide))).mono ?_
      rintro e w14 ⟨rfl, hb⟩
      rw [used_bad (by decide)]
      replace HB : Hd (Below w.heap.size w w14) := hd (below_then HB.out HB.out.size hb)
      replace HS := hd (HS.out.below hb)
      replace HD := hd (Kd.C_below HD.out hb)
      clear hb
      go_wp2_with fail
      refine (used_st HS.out (by decide) 5000 nm 0 1099511627777 _ _ (total_sum _ _ _ _ _ (by decide))).mono ?_
      rintro e w15 ⟨rfl, hb⟩
      rw [used_bad (by decide)]
      replace HB : Hd (Below w.heap.size w w15) := hd (below_then HB.out HB.out.size hb)
      replace HS := hd (HS.out.below hb)
      replace HD := hd (Kd.C_below HD.out hb)
      clear hb
      go_wp2_with fail
      refine (hours_st HS.out (by decide) nm 0 3600001).mono ?_
      rintro e w16 ⟨v, rfl, hR, hb⟩
      rw [n_long] at hR ⊢
      obtain ⟨A3, cA3, rfl, hcA3, hC⟩ := Kd.R_reads hR
      replace HB : Hd (Below w.heap.size w w16) := hd (below_then HB.out HB.out.size hb)
      replace HS := hd (HS.out.below hb)
      replace HD := hd (Kd.C_below HD.out hb)

      clear hb hR hC
      obtain ⟨q1, q2, hq⟩ : ∃ a b, rollR P2 [7] nm 0 3600000 3600 = (a, b, 0) := ⟨(rollR P2 [7] nm 0 3600000 3600).1, (rollR P2 [7] nm 0 3600000 3600).2.1, Prod.ext rfl (Prod.ext rfl n_most)⟩
      go_wp2_with fail
      refine (hours_st HS.out (by decide) nm 0 3600000).mono ?_
      rintro e w17 ⟨v, rfl, hR, hb⟩
      rw [hq] at hR ⊢
      obtain ⟨A4, cA4, rfl, hcA4, hC⟩ := Kd.R_reads hR
      replace HB : Hd (Below w.heap.size w w17) := hd (below_then HB.out HB.out.size hb)
      replace HS := hd (HS.out.below hb)
      replace HD := hd (Kd.C_below HD.out hb)

      clear hb hR hC
      clear hq
      go_wp2_with fail
      refine (days_st HS.out (by decide) (⟨#[]⟩ : ByteArray) 1099511627776 1099511627776).mono ?_
      rintro e w18 ⟨v, rfl, hR, hb⟩
      rw [n_last] at hR ⊢
      obtain ⟨A5, cA5, rfl, hcA5, hC⟩ := Kd.R_reads hR
      replace HB : Hd (Below w.heap.size w w18) := hd (below_then HB.out HB.out.size hb)
      replace HS := hd (HS.out.below hb)
      replace HD := hd (Kd.C_below HD.out hb)

      clear hb hR hC
      go_wp2_with fail
      have hba := below_alloc (Below.refl _ w18) (.cells #[.int .i64 9223372036854775807, .int .i64 1] 2)
      refine (account_Sum.calls 100 (some ⟨w18.heap.size, 0, none⟩) 2 [9223372036854775807, 1] 9223372036854775807 true (w18.alloc (.cells #[.int .i64 9223372036854775807, .int .i64 1] 2)) (nums_any w18 [9223372036854775807, 1] (by simp)) (Nat.le_refl _) (by rw [sum_spec _ (by decide) n_i1 100 (by decide), n_sum1])).mono ?_
      rintro e w19 ⟨rfl, hb⟩
      replace HB : Hd (Below w.heap.size w w19) := hd (below_then (below_alloc HB.out _) (by have := HB.out.size; simp; omega) hb)
      replace HS := hd ((HS.out.below hba).below hb)
      replace HD := hd (Kd.C_below (Kd.C_below HD.out hba) hb)
      clear hb hba
      go_wp2_with fail
      have hba := below_alloc (Below.refl _ w19) (.cells #[.int .i64 (-5), .int .i64 3, .int .i64 9223372036854775804] 2)
      refine (account_Sum.calls 100 (some ⟨w19.heap.size, 0, none⟩) 3 [-5, 3, 9223372036854775804] 9223372036854775807 false (w19.alloc (.cells #[.int .i64 (-5), .int .i64 3, .int .i64 9223372036854775804] 2)) (nums_any w19 [-5, 3, 9223372036854775804] (by simp)) (Nat.le_refl _) (by rw [sum_spec _ (by decide) n_i2 100 (by decide), n_sum2])).mono ?_
      rintro e w20 ⟨rfl, hb⟩
      replace HB : Hd (Below w.heap.size w w20) := hd (below_then (below_alloc HB.out _) (by have := HB.out.size; simp; omega) hb)
      replace HS := hd ((HS.out.below hba).below hb)
      replace HD := hd (Kd.C_below (Kd.C_below HD.out hba) hb)
      clear hb hba
      go_upto_region 18 with (fail)
      go_cut [35] from 124 to 190 (fun v wc => v = .bool true ∧ ∃ okS : Nat → Prop, Hd (∀ k, okS k → w.heap.size ≤ k) ∧ Hd (St wc w.heap.size okS s P2 [7]) ∧ Hd (Below w.heap.size w wc))
      case first =>
        go_wp2_with fail
        have hba := below_alloc (Below.refl _ w20) (.cells #[.int .i64 31200] 2)
        refine (musterlow_SameNumbers.calls 3 A1 cA1 [31200] (some ⟨w20.heap.size, 0, none⟩) 1 [31200] true (w20.alloc (.cells #[.int .i64 31200] 2)) (Kd.C_below HD.out hba) hcA1 (nums_any w20 [31200] (by simp)) (Nat.le_refl _) (same_spec _ (by decide) 3 (by decide))).mono ?_
        rintro e w_ ⟨rfl, nd, rfl⟩
        replace HB : Hd (Below w.heap.size w ((w20.alloc (.cells #[.int .i64 31200] 2)).drewN nd)) := hd (pw_below_drewN (below_alloc HB.out _) nd)
        replace HS := hd ((HS.out.below hba).drewN nd)
        clear hba HD
        go_wp2_with fail
        go_meet
        case rel => exact ⟨rfl, okS, HOKS, HS, HB⟩
      case rest =>
        clear HS HB HOKS HD
        obtain ⟨rfl, okS, HOKS, HS, HB⟩ := hcut
        go_wp2_with (first | ((with_reducible refine gate_dst (N := 36) rfl ?_); refine box_event ?hg (N := 36) ?hd (cs := #[.int .i64 0, .int .u8 0, .int .i64 0, .string (⟨#[]⟩ : ByteArray), .string (⟨#[]⟩ : ByteArray), .int .i64 0, .int .i64 0, .int .u8 0]) (t := 36) ?hr ?_; (case hd => rfl); (case hg => rfl); (case hr => first | (go_simp; done) | (go_simp; rfl)); intro g6 hg w23 hbox hb; have HG6 := hd hg; have HP6 := hd hbox; have HB6 := hd (below_step HB.out hb); have HS6 := hd (HS.out.bound.below hb); clear hg hbox hb) | ((with_reducible refine gate_store (t := 36) (p := 36) rfl ?_); refine wpList_store_row rfl 36 (.tmp 36) (.tmp 191) rfl g6 #[.int .i64 fineE.f0, .int .u8 fineE.f1, .int .i64 fineE.f2, .string fineE.f3, .string fineE.f4, .int .i64 fineE.f5, .int .i64 fineE.f6, .int .u8 fineE.f7] rfl rfl 36 _ HP6.out (by kernel_rfl) rfl (by simp [Value.oneCell']) ?_; refine holdN ?_))
        refine ⟨?_⟩
        have HF7 := hd (setRow_heap w23 g6 _ #[.int .i64 fineE.f0, .int .u8 fineE.f1, .int .i64 fineE.f2, .string fineE.f3, .string fineE.f4, .int .i64 fineE.f5, .int .i64 fineE.f6, .int .u8 fineE.f7] 36 (0, 0) HP6.out)
        have HB7 : Hd (Below w.heap.size w (w23.setRow g6 #[.int .i64 fineE.f0, .int .u8 fineE.f1, .int .i64 fineE.f2, .string fineE.f3, .string fineE.f4, .int .i64 fineE.f5, .int .i64 fineE.f6, .int .u8 fineE.f7])) := hd (below_setRow HB6.out (by have := HG6.out; have := HB.out.size; omega) _)
        have HS7 := hd ((HS6.out.step (w' := w23.setRow g6 #[.int .i64 fineE.f0, .int .u8 fineE.f1, .int .i64 fineE.f2, .string fineE.f3, .string fineE.f4, .int .i64 fineE.f5, .int .i64 fineE.f6, .int .u8 fineE.f7]) fun k hk hl => setRow_other _ _ _ _ (fun e => by have := HG6.out; have h_ := hk.2; omega)).mono fun k hk => hk.1)
        have HO7 : Hd (∀ k, (okS k ∧ k < wc.heap.size) → w.heap.size ≤ k ∧ k ≠ g6) := hd fun k h => ⟨HOKS.out k h.1, fun e => by have := HG6.out; have := h.2; omega⟩
        have HG7 : Hd (w.heap.size ≤ g6) := hd (by have := HG6.out; have := HB.out.size; omega)
        clear HP6 HB6 HS6 HS HB HOKS HG6
        generalize w23.setRow g6 #[.int .i64 fineE.f0, .int .u8 fineE.f1, .int .i64 fineE.f2, .string fineE.f3, .string fineE.f4, .int .i64 fineE.f5, .int .i64 fineE.f6, .int .u8 fineE.f7] = w24 at HF7 HB7 HS7 ⊢
        go_wp2_with fail
        go_loopw [37] (fun iv wr => ∃ i : Nat, i ≤ 12 ∧ iv = .int .i64 (i : Int) ∧ ∃ okS : Nat → Prop, Hd (∀ k, okS k → w.heap.size ≤ k ∧ k ≠ g6) ∧ Hd (St wr w.heap.size okS s P2 [7]) ∧ Hd (wr.heap[g6]? = some (.cells #[.int .i64 fineE.f0, .int .u8 fineE.f1, .int .i64 fineE.f2, .string fineE.f3, .string fineE.f4, .int .i64 fineE.f5, .int .i64 fineE.f6, .int .u8 fineE.f7] 36 (0, 0))) ∧ Hd (Below w.heap.size w wr)) (fun iv _ => 12 - (intOf iv).toNat)
        case atStart => exact ⟨0, by omega, rfl, _, HO7, HS7, HF7, HB7⟩
        case round =>
          clear HO7 HS7 HF7 HB7
          obtain ⟨i, hi, rfl, okS, HOKS, HS, HF, HB⟩ := hrel
          by_cases hlt : i < 12
          · have hlt' : (i : Int) < 12 := by omega
            have f0 : wr.cell? ⟨g6, 0, none⟩ = some (.int .i64 fineE.f0) := (blk_cell HF.out 0).trans rfl
            have f1 : wr.cell? ⟨g6, 1, none⟩ = some (.int .u8 fineE.f1) := (blk_cell HF.out 1).trans rfl
            have f2 : wr.cell? ⟨g6, 2, none⟩ = some (.int .i64 fineE.f2) := (blk_cell HF.out 2).trans rfl
            have f3 : wr.cell? ⟨g6, 3, none⟩ = some (.string fineE.f3) := (blk_cell HF.out 3).trans rfl
            have f4 : wr.cell? ⟨g6, 4, none⟩ = some (.string fineE.f4) := (blk_cell HF.out 4).trans rfl
            have f5 : wr.cell? ⟨g6, 5, none⟩ = some (.int .i64 fineE.f5) := (blk_cell HF.out 5).trans rfl
            have f6 : wr.cell? ⟨g6, 6, none⟩ = some (.int .i64 fineE.f6) := (blk_cell HF.out 6).trans rfl
            have f7 : wr.cell? ⟨g6, 7, none⟩ = some (.int .u8 fineE.f7) := (blk_cell HF.out 7).trans rfl
            go_wp2_with (first | ((with_reducible refine gate_dst (N := 38) rfl ?_); refine box_event ?hg (N := 38) ?hd (cs := #[.int .i64 0, .int .u8 0, .int .i64 0, .string (⟨#[]⟩ : ByteArray), .string (⟨#[]⟩ : ByteArray), .int .i64 0, .int .i64 0, .int .u8 0]) (t := 36) ?hr ?_; (case hd => rfl); (case hg => rfl); (case hr => first | (go_simp; done) | (go_simp; rfl)); intro g8 hg w25 hbox hb; have HG8 := hd hg; have HP8 := hd hbox; have HB8 := hd (below_step HB.out hb); have HS8 := hd (HS.out.bound.below hb); have HF8 := hd (blk_below HF.out hb); clear hg hbox hb) | ((with_reducible refine gate_store (t := 36) (p := 38) rfl ?_); refine wpList_store_row rfl 36 (.tmp 38) (.tmp 196) rfl g8 #[.int .i64 fineE.f0, .int .u8 fineE.f1, .int .i64 fineE.f2, .string fineE.f3, .string fineE.f4, .int .i64 fineE.f5, .int .i64 fineE.f6, .int .u8 fineE.f7] rfl rfl 36 _ HP8.out (by kernel_rfl) rfl (by simp [Value.oneCell']) ?_; refine holdN ?_))
            refine ⟨?_⟩
            clear f0 f1 f2 f3 f4 f5 f6 f7
            have HN6 : Hd (g6 ≠ g8) := hd fun e => by have := HG8.out; have := blk_lt HF.out; omega
            have HP9 := hd (setRow_heap w25 g8 _ #[.int .i64 fineE.f0, .int .u8 fineE.f1, .int .i64 fineE.f2, .string fineE.f3, .string fineE.f4, .int .i64 fineE.f5, .int .i64 fineE.f6, .int .u8 fineE.f7] 36 (0, 0) HP8.out)
            have HB9 : Hd (Below w.heap.size w (w25.setRow g8 #[.int .i64 fineE.f0, .int .u8 fineE.f1, .int .i64 fineE.f2, .string fineE.f3, .string fineE.f4, .int .i64 fineE.f5, .int .i64 fineE.f6, .int .u8 fineE.f7])) := hd (below_setRow HB8.out (by have := HG8.out; have := HB.out.size; omega) _)
            have HS9 := hd ((HS8.out.step (w' := w25.setRow g8 #[.int .i64 fineE.f0, .int .u8 fineE.f1, .int .i64 fineE.f2, .string fineE.f3, .string fineE.f4, .int .i64 fineE.f5, .int .i64 fineE.f6, .int .u8 fineE.f7]) fun k hk hl => setRow_other _ _ _ _ (fun e => by have := HG8.out; have h_ := hk.2; omega)).mono fun k hk => hk.1)
            have HF9 := hd ((setRow_other w25 g8 g6 #[.int .i64 fineE.f0, .int .u8 fineE.f1, .int .i64 fineE.f2, .string fineE.f3, .string fineE.f4, .int .i64 fineE.f5, .int .i64 fineE.f6, .int .u8 fineE.f7] HN6.out).trans HF8.out)
            have HNE : Hd (∀ k, (okS k ∧ k < wr.heap.size) → k ≠ g8) := hd fun k h e => by have := HG8.out; have := h.2; omega
            have HGB : Hd (w.heap.size ≤ g8) := hd (by have := HG8.out; have := HB.out.size; omega)
            have HZR : Hd (wr.heap.size ≤ (w25.setRow g8 #[.int .i64 fineE.f0, .int .u8 fineE.f1, .int .i64 fineE.f2, .string fineE.f3, .string fineE.f4, .int .i64 fineE.f5, .int .i64 fineE.f6, .int .u8 fineE.f7]).heap.size) := hd (by have := HG8.out; have := blk_lt HP9.out; omega)
            clear HP8 HB8 HS8 HF8 HS HF HB HG8
            have HP := HP9
            have HB := HB9
            have HS := HS9
            have HF := HF9
            clear HP9 HB9 HS9 HF9
            generalize w25.setRow g8 #[.int .i64 fineE.f0, .int .u8 fineE.f1, .int .i64 fineE.f2, .string fineE.f3, .string fineE.f4, .int .i64 fineE.f5, .int .i64 fineE.f6, .int .u8 fineE.f7] = w26 at HP HB HS HF HZR ⊢
            go_upto_block 4 with fail
            go_cut [198] from 198 to 234 (fun v wc => Hd (wc.heap[g8]? = some (.cells #[.int .i64 (wrongE i).f0, .int .u8 (wrongE i).f1, .int .i64 (wrongE i).f2, .string (wrongE i).f3, .string (wrongE i).f4, .int .i64 (wrongE i).f5, .int .i64 (wrongE i).f6, .int .u8 (wrongE i).f7] 36 (0, 0))) ∧ Hd (St wc w.heap.size (fun k => okS k ∧ k < wr.heap.size) s P2 [7]) ∧ Hd (wc.heap[g6]? = some (.cells #[.int .i64 fineE.f0, .int .u8 fineE.f1, .int .i64 fineE.f2, .string fineE.f3, .string fineE.f4, .int .i64 fineE.f5, .int .i64 fineE.f6, .int .u8 fineE.f7] 36 (0, 0))) ∧ Hd (Below w.heap.size w wc))
            case first =>
              have c0 : w26.cell? ⟨g8, 0, none⟩ = some (.int .i64 fineE.f0) := (blk_cell HP.out 0).trans rfl
              have c1 : w26.cell? ⟨g8, 1, none⟩ = some (.int .u8 fineE.f1) := (blk_cell HP.out 1).trans rfl
              have c2 : w26.cell? ⟨g8, 2, none⟩ = some (.int .i64 fineE.f2) := (blk_cell HP.out 2).trans rfl
              have c3 : w26.cell? ⟨g8, 3, none⟩ = some (.string fineE.f3) := (blk_cell HP.out 3).trans rfl
              have c4 : w26.cell? ⟨g8, 4, none⟩ = some (.string fineE.f4) := (blk_cell HP.out 4).trans rfl
              have c5 : w26.cell? ⟨g8, 5, none⟩ = some (.int .i64 fineE.f5) := (blk_cell HP.out 5).trans rfl
              have c6 : w26.cell? ⟨g8, 6, none⟩ = some (.int .i64 fineE.f6) := (blk_cell HP.out 6).trans rfl
              have c7 : w26.cell? ⟨g8, 7, none⟩ = some (.int .u8 fineE.f7) := (blk_cell HP.out 7).trans rfl
              have hi12 : i = 0 ∨ i = 1 ∨ i = 2 ∨ i = 3 ∨ i = 4 ∨ i = 5 ∨ i = 6 ∨ i = 7 ∨ i = 8 ∨ i = 9 ∨ i = 10 ∨ i = 11 := by omega
              clear hlt' hlt hi
              · skip
                rcases hi12 with rfl | rfl | rfl | rfl | rfl | rfl | rfl | rfl | rfl | rfl | rfl | rfl
                · have hfz := blk_frozen HP.out 0
                  go_wp2
                  go_meet
                  case rel => exact ⟨hd (blk_put HP.out 0 _ rfl), hd (((HS.out.step (w' := (w26.setCell ⟨g8, 0, none⟩ (.int .i64 0))) fun k hk hl => Below.heap_setCell w26 ⟨g8, 0, none⟩ _ k (fun e => HNE.out k hk e)).mono fun k hk => hk.1)), hd ((Below.heap_setCell w26 ⟨g8, 0, none⟩ _ g6 HN6.out).trans HF.out), hd (below_set HB.out HGB.out)⟩
                · have hfz := blk_frozen HP.out 0
                  go_wp2
                  go_meet
                  case rel => exact ⟨hd (blk_put HP.out 0 _ rfl), hd (((HS.out.step (w' := (w26.setCell ⟨g8, 0, none⟩ (.int .i64 1073741825))) fun k hk hl => Below.heap_setCell w26 ⟨g8, 0, none⟩ _ k (fun e => HNE.out k hk e)).mono fun k hk => hk.1)), hd ((Below.heap_setCell w26 ⟨g8, 0, none⟩ _ g6 HN6.out).trans HF.out), hd (below_set HB.out HGB.out)⟩
                · have hfz := blk_frozen HP.out 1
                  go_wp2
                  go_meet
                  case rel => exact ⟨hd (blk_put HP.out 1 _ rfl), hd (((HS.out.step (w' := (w26.setCell ⟨g8, 1, none⟩ (.int .u8 0))) fun k hk hl => Below.heap_setCell w26 ⟨g8, 1, none⟩ _ k (fun e => HNE.out k hk e)).mono fun k hk => hk.1)), hd ((Below.heap_setCell w26 ⟨g8, 1, none⟩ _ g6 HN6.out).trans HF.out), hd (below_set HB.out HGB.out)⟩
                · have hfz := blk_frozen HP.out 1
                  go_wp2
                  go_meet
                  case rel => exact ⟨hd (blk_put HP.out 1 _ rfl), hd (((HS.out.step (w' := (w26.setCell ⟨g8, 1, none⟩ (.int .u8 4))) fun k hk hl => Below.heap_setCell w26 ⟨g8, 1, none⟩ _ k (fun e => HNE.out k hk e)).mono fun k hk => hk.1)), hd ((Below.heap_setCell w26 ⟨g8, 1, none⟩ _ g6 HN6.out).trans HF.out), hd (below_set HB.out HGB.out)⟩
                · have hfz := blk_frozen HP.out 2
                  go_wp2
                  go_meet
                  case rel => exact ⟨hd (blk_put HP.out 2 _ rfl), hd (((HS.out.step (w' := (w26.setCell ⟨g8, 2, none⟩ (.int .i64 (-1)))) fun k hk hl => Below.heap_setCell w26 ⟨g8, 2, none⟩ _ k (fun e => HNE.out k hk e)).mono fun k hk => hk.1)), hd ((Below.heap_setCell w26 ⟨g8, 2, none⟩ _ g6 HN6.out).trans HF.out), hd (below_set HB.out HGB.out)⟩
                · have hfz := blk_frozen HP.out 2
                  go_wp2
                  go_meet
                  case rel => exact ⟨hd (blk_put HP.out 2 _ rfl), hd (((HS.out.step (w' := (w26.setCell ⟨g8, 2, none⟩ (.int .i64 1099511627777))) fun k hk hl => Below.heap_setCell w26 ⟨g8, 2, none⟩ _ k (fun e => HNE.out k hk e)).mono fun k hk => hk.1)), hd ((Below.heap_setCell w26 ⟨g8, 2, none⟩ _ g6 HN6.out).trans HF.out), hd (below_set HB.out HGB.out)⟩
                · have hfz := blk_frozen HP.out 3
                  go_wp2
                  go_meet
                  case rel => exact ⟨hd (blk_put HP.out 3 _ rfl), hd (((HS.out.step (w' := (w26.setCell ⟨g8, 3, none⟩ (.string (⟨#[49, 50, 51, 52, 53, 54, 55, 56, 57, 48, 49, 50, 51, 52, 53, 54, 55]⟩ : ByteArray)))) fun k hk hl => Below.heap_setCell w26 ⟨g8, 3, none⟩ _ k (fun e => HNE.out k hk e)).mono fun k hk => hk.1)), hd ((Below.heap_setCell w26 ⟨g8, 3, none⟩ _ g6 HN6.out).trans HF.out), hd (below_set HB.out HGB.out)⟩
                · have hfz := blk_frozen HP.out 5
                  go_wp2
                  go_meet
                  case rel => exact ⟨hd (blk_put HP.out 5 _ rfl), hd (((HS.out.step (w' := (w26.setCell ⟨g8, 5, none⟩ (.int .i64 33))) fun k hk hl => Below.heap_setCell w26 ⟨g8, 5, none⟩ _ k (fun e => HNE.out k hk e)).mono fun k hk => hk.1)), hd ((Below.heap_setCell w26 ⟨g8, 5, none⟩ _ g6 HN6.out).trans HF.out), hd (below_set HB.out HGB.out)⟩
                · have hfz := blk_frozen HP.out 6
                  go_wp2
                  go_meet
                  case rel => exact ⟨hd (blk_put HP.out 6 _ rfl), hd (((HS.out.step (w' := (w26.setCell ⟨g8, 6, none⟩ (.int .i64 65))) fun k hk hl => Below.heap_setCell w26 ⟨g8, 6, none⟩ _ k (fun e => HNE.out k hk e)).mono fun k hk => hk.1)), hd ((Below.heap_setCell w26 ⟨g8, 6, none⟩ _ g6 HN6.out).trans HF.out), hd (below_set HB.out HGB.out)⟩
                · have hfz := blk_frozen HP.out 7
                  go_wp2
                  go_meet
                  case rel => exact ⟨hd (blk_put HP.out 7 _ rfl), hd (((HS.out.step (w' := (w26.setCell ⟨g8, 7, none⟩ (.int .u8 3))) fun k hk hl => Below.heap_setCell w26 ⟨g8, 7, none⟩ _ k (fun e => HNE.out k hk e)).mono fun k hk => hk.1)), hd ((Below.heap_setCell w26 ⟨g8, 7, none⟩ _ g6 HN6.out).trans HF.out), hd (below_set HB.out HGB.out)⟩
                · have hfz := blk_frozen HP.out 1
                  go_wp2
                  go_meet
                  case rel => exact ⟨hd (blk_put HP.out 1 _ rfl), hd (((HS.out.step (w' := (w26.setCell ⟨g8, 1, none⟩ (.int .u8 3))) fun k hk hl => Below.heap_setCell w26 ⟨g8, 1, none⟩ _ k (fun e => HNE.out k hk e)).mono fun k hk => hk.1)), hd ((Below.heap_setCell w26 ⟨g8, 1, none⟩ _ g6 HN6.out).trans HF.out), hd (below_set HB.out HGB.out)⟩
                · have hfz := blk_frozen HP.out 1
                  have hfz7 := blk_frozen HP.out 7
                  go_wp2
                  go_meet
                  case rel => exact ⟨hd (blk_put (blk_put HP.out 1 _ rfl) 7 _ rfl), hd (((HS.out.step (w' := ((w26.setCell ⟨g8, 1, none⟩ (.int .u8 3)).setCell ⟨g8, 7, none⟩ (.int .u8 2))) fun k hk hl => (Below.heap_setCell (w26.setCell ⟨g8, 1, none⟩ (.int .u8 3)) ⟨g8, 7, none⟩ _ k (fun e => HNE.out k hk e)).trans (Below.heap_setCell w26 ⟨g8, 1, none⟩ _ k (fun e => HNE.out k hk e))).mono fun k hk => hk.1)), hd (((Below.heap_setCell (w26.setCell ⟨g8, 1, none⟩ (.int .u8 3)) ⟨g8, 7, none⟩ _ g6 HN6.out).trans (Below.heap_setCell w26 ⟨g8, 1, none⟩ _ g6 HN6.out)).trans HF.out), hd (below_set (below_set HB.out HGB.out) HGB.out)⟩
            case rest =>
              clear HP HS HF HB HZR
              obtain ⟨HP, HS, HF, HB⟩ := hcut
              have c0 : wc.cell? ⟨g8, 0, none⟩ = some (.int .i64 (wrongE i).f0) := (blk_cell HP.out 0).trans rfl
              have c1 : wc.cell? ⟨g8, 1, none⟩ = some (.int .u8 (wrongE i).f1) := (blk_cell HP.out 1).trans rfl
              have c2 : wc.cell? ⟨g8, 2, none⟩ = some (.int .i64 (wrongE i).f2) := (blk_cell HP.out 2).trans rfl
              have c3 : wc.cell? ⟨g8, 3, none⟩ = some (.string (wrongE i).f3) := (blk_cell HP.out 3).trans rfl
              have c4 : wc.cell? ⟨g8, 4, none⟩ = some (.string (wrongE i).f4) := (blk_cell HP.out 4).trans rfl
              have c5 : wc.cell? ⟨g8, 5, none⟩ = some (.int .i64 (wrongE i).f5) := (blk_cell HP.out 5).trans rfl
              have c6 : wc.cell? ⟨g8, 6, none⟩ = some (.int .i64 (wrongE i).f6) := (blk_cell HP.out 6).trans rfl
              have c7 : wc.cell? ⟨g8, 7, none⟩ = some (.int .u8 (wrongE i).f7) := (blk_cell HP.out 7).trans rfl
              have HZC : Hd (g8 < wc.heap.size ∧ g6 < wc.heap.size) := hd ⟨blk_lt HP.out, blk_lt HF.out⟩
              go_wp2_with fail
              refine (take_st (ok := fun k => (okS k ∧ k < wr.heap.size) ∨ wc.heap.size ≤ k) (HS.out.mono fun k h => .inl h) (fun k h => .inr h) HB.out.size (by exact List.pairwise_singleton _ _) (by decide) (pastS (wrongE i))).mono ?_
              rintro e w30 ht
              rw [wrong_take i] at ht
              obtain ⟨rfl, hS, hO⟩ := ht
              have HB30 : Hd (Below w.heap.size w w30) := hd (hO.to_below (fun k h => h.elim (fun h => (HOKS.out k h.1).1) (fun h => Nat.le_trans HB.out.size h)) HB.out HB.out.size)
              have HS30 := hd hS
              have HP30 := hd ((hO.block g8 HZC.out.1 (fun h => h.elim (fun h => HNE.out g8 h rfl) (fun h => by have := HZC.out.1; omega))).trans HP.out)
              have HF30 := hd ((hO.block g6 HZC.out.2 (fun h => h.elim (fun h => (HOKS.out g6 h.1).2 rfl) (fun h => by have := HZC.out.2; omega))).trans HF.out)
              have HO30 : Hd (∀ k, ((okS k ∧ k < wr.heap.size) ∨ wc.heap.size ≤ k) → w.heap.size ≤ k ∧ k ≠ g6) := hd fun k h => h.elim (fun h => HOKS.out k h.1) (fun h => ⟨Nat.le_trans HB.out.size h, fun e => by have := HZC.out.2; omega⟩)
              clear hS hO c0 c1 c2 c3 c4 c5 c6 c7 HP HS HF HB
              have c0 : w30.cell? ⟨g8, 0, none⟩ = some (.int .i64 (wrongE i).f0) := (blk_cell HP30.out 0).trans rfl
              have c1 : w30.cell? ⟨g8, 1, none⟩ = some (.int .u8 (wrongE i).f1) := (blk_cell HP30.out 1).trans rfl
              have c2 : w30.cell? ⟨g8, 2, none⟩ = some (.int .i64 (wrongE i).f2) := (blk_cell HP30.out 2).trans rfl
              have c3 : w30.cell? ⟨g8, 3, none⟩ = some (.string (wrongE i).f3) := (blk_cell HP30.out 3).trans rfl
              have c4 : w30.cell? ⟨g8, 4, none⟩ = some (.string (wrongE i).f4) := (blk_cell HP30.out 4).trans rfl
              have c5 : w30.cell? ⟨g8, 5, none⟩ = some (.int .i64 (wrongE i).f5) := (blk_cell HP30.out 5).trans rfl
              have c6 : w30.cell? ⟨g8, 6, none⟩ = some (.int .i64 (wrongE i).f6) := (blk_cell HP30.out 6).trans rfl
              have c7 : w30.cell? ⟨g8, 7, none⟩ = some (.int .u8 (wrongE i).f7) := (blk_cell HP30.out 7).trans rfl
              go_wp2_with fail
              refine (account_right_any (wrongE i).f0 (wrongE i).f1 (wrongE i).f2 (wrongE i).f3 (wrongE i).f4 (wrongE i).f5 (wrongE i).f6 (wrongE i).f7 w30).mono ?_
              rintro e w31 ⟨rfl, b⟩
              rw [show rightP (wrongE i).f0 (wrongE i).f1 (wrongE i).f2 (wrongE i).f3 (wrongE i).f4 (wrongE i).f5 (wrongE i).f6 (wrongE i).f7 = false from wrong_right i]
              have HB31 : Hd (Below w.heap.size w w31) := hd (below_then HB30.out HB30.out.size b)
              have HS31 := hd (HS30.out.below b)
              have HF31 := hd (blk_below HF30.out b)
              clear b c0 c1 c2 c3 c4 c5 c6 c7 HB30 HS30 HF30 HP30
              go_wp2
              go_roundw
              case rel => exact ⟨i + 1, by omega, by go_num, _, HO30, HS31, HF31, HB31⟩
              case measure => simp [intOf]; omega
          · obtain rfl : i = 12 := by omega
            have hlt' : ¬ (((12 : Nat) : Int) < 12) := by omega
            go_wp2_with fail
            refine (new_st wr (fun k => wr.heap.size ≤ k) (fun _ h => h)).mono ?_
            rintro e w40 ⟨t, rfl, -, hS, hb⟩
            have HB40 : Hd (Below w.heap.size w w40) := hd (below_then HB.out HB.out.size hb)
            have HS40 : Hd (St w40 w.heap.size (fun k => w.heap.size ≤ k) t (fullP 0) (idsF 0)) := hd ((hS.lower HB.out.size).mono fun k h => Nat.le_trans HB.out.size h)
            clear hS hb HS HF HB HOKS
            go_upto_block 5 with fail
            go_cut [42] from 251 to 267 (fun iv wc => Hd (St wc w.heap.size (fun k => w.heap.size ≤ k) t (fullP 4096) (idsF 4096)) ∧ Hd (Below w.heap.size w wc))
            case first =>
              go_wp2_with fail
              go_loopw [42] (fun iv wr => ∃ n : Nat, n ≤ 4096 ∧ iv = .int .i64 ((n + 1 : Nat) : Int) ∧ Hd (St wr w.heap.size (fun k => w.heap.size ≤ k) t (fullP n) (idsF n)) ∧ Hd (Below w.heap.size w wr)) (fun iv _ => 4097 - (intOf iv).toNat)
              case atStart => exact ⟨0, by omega, rfl, HS40, HB40⟩
              case round =>
                clear HS40 HB40
                obtain ⟨n, hn, rfl, HS, HB⟩ := hrel
                by_cases hlt : n < 4096
                · have hle : ((n + 1 : Nat) : Int) ≤ 4096 := by omega
                  have hil : (idsF n).length ≤ 4096 := by rw [idsF_len]; omega
                  go_wp2_with fail
                  refine (take_st HS.out (fun k h => Nat.le_trans HB.out.size h) HB.out.size (idsF_rise n) hil (fullE ((n + 1 : Nat) : Int))).mono ?_
                  rintro e w41 ht
                  rw [full_take n hlt] at ht
                  obtain ⟨rfl, hS, hO⟩ := ht
                  have HB41 : Hd (Below w.heap.size w w41) := hd (hO.to_below (fun _ h => h) HB.out HB.out.size)
                  have HS41 := hd hS
                  clear hS hO HS HB hil
                  go_wp2
                  go_roundw
                  case rel => exact ⟨n + 1, by omega, by go_num, HS41, HB41⟩
                  case measure => simp [intOf]; omega
                · obtain rfl : n = 4096 := by omega
                  have hle : ¬ (((4096 + 1 : Nat) : Int) ≤ 4096) := by omega
                  go_wp2
                  go_meet
                  case rel => exact ⟨HS, HB⟩
            case rest =>
              clear HS40 HB40
              obtain ⟨HS, HB⟩ := hcut
              have hil : (idsF 4096).length ≤ 4096 := by rw [idsF_len]; exact Nat.le_refl _
              have HIL := hd hil
              clear hil
              go_wp2_with fail
              refine (take_st HS.out (fun k h => Nat.le_trans HB.out.size h) HB.out.size (idsF_rise _) HIL.out newE).mono ?_
              rintro e w42 ht
              rw [take_new] at ht
              obtain ⟨rfl, hS, hO⟩ := ht
              replace HB : Hd (Below w.heap.size w w42) := hd (hO.to_below (fun _ h => h) HB.out HB.out.size)
              replace HS := hd hS
              clear hS hO
              go_wp2_with fail
              refine (take_st HS.out (fun k h => Nat.le_trans HB.out.size h) HB.out.size (idsF_rise _) HIL.out oldE).mono ?_
              rintro e w43 ht
              rw [take_old] at ht
              obtain ⟨rfl, hS, hO⟩ := ht
              replace HB : Hd (Below w.heap.size w w43) := hd (hO.to_below (fun _ h => h) HB.out HB.out.size)
              replace HS := hd hS
              clear hS hO
              go_wp2_with fail
              refine (take_st HS.out (fun k h => Nat.le_trans HB.out.size h) HB.out.size (idsF_rise _) HIL.out subE).mono ?_
              rintro e w44 ht
              rw [take_sub] at ht
              obtain ⟨rfl, hS, hO⟩ := ht
              replace HB : Hd (Below w.heap.size w w44) := hd (hO.to_below (fun _ h => h) HB.out HB.out.size)
              replace HS := hd hS
              clear hS hO
              go_wp2_with fail
              refine (used_st HS.out HIL.out 5000 (⟨#[]⟩ : ByteArray) 0 1099511627776 _ _ (total_sum _ _ _ _ _ HIL.out)).mono ?_
              rintro e w45 ⟨rfl, hb⟩
              rw [show totalP P9 (idsF 4096) (⟨#[]⟩ : ByteArray) 0 1099511627776 = (9223372036854775807, true) from P9_total0, show usedR 9223372036854775807 true 0 1099511627776 = .tuple #[.int .i64 9223372036854775807, .bool true, .int .i64 0] from rfl]
              replace HB : Hd (Below w.heap.size w w45) := hd (below_then HB.out HB.out.size hb)
              replace HS := hd (HS.out.below hb)
              clear hb
              go_wp2_with fail
              refine (used_st HS.out HIL.out 5000 (⟨#[]⟩ : ByteArray) 1 1099511627776 _ _ (total_sum _ _ _ _ _ HIL.out)).mono ?_
              rintro e w46 ⟨rfl, hb⟩
              rw [show totalP P9 (idsF 4096) (⟨#[]⟩ : ByteArray) 1 1099511627776 = (9223372036846387200, false) from P9_total1, show usedR 9223372036846387200 false 1 1099511627776 = .tuple #[.int .i64 9223372036846387200, .bool false, .int .i64 0] from rfl]
              replace HB : Hd (Below w.heap.size w w46) := hd (below_then HB.out HB.out.size hb)
              replace HS := hd (HS.out.below hb)
              clear hb
              go_wp2_with fail
              refine (awake_walk w46).mono ?_
              rintro e w47 ⟨rfl, b⟩
              have HB47 : Hd (Below w.heap.size w w47) := hd (below_then HB.out HB.out.size b)
              clear b HS
              go_wp2
              go_ret
              exact ⟨rfl, HB47.out⟩
def musterlaw27_AccountNumbers.f : Option Bool := some true
theorem musterlaw27_AccountNumbers.calls (r : Bool) (w : World) (h : musterlaw27_AccountNumbers.f = some r) : Calls Try.prog 4 #[] w fun e w' => e = .returned (.bool r) ∧ Below w.heap.size w w' := by
  cases h
  exact numbers_walk w
end Go.Proofs.Ytinpgejkkfpckaa.Pr
