/-
  musterlaw27.event, by hand: the numbers that it reckons under names of their own.
-/
import Derived.Test.YtinpgejkkfpckaaQ8
namespace Go.Proofs.Ytinpgejkkfpckaa.Pr
open Go.RowKit Go.Proofs.YtinpgejkkfpckaaW.PrintWords Go.Proofs.YtinpgejkkfpckaaW.PrintLast Go.Proofs.YtinpgejkkfpckaaW.PrintMore Go.Proofs.YtinpgejkkfpckaaG
set_option linter.unusedVariables false
set_option linter.unusedSimpArgs false
theorem holdE_ {p} (h : Hd p) : p := h.out
set_option maxRecDepth 100000 in
set_option maxHeartbeats 2000000 in
theorem event_st (a0 : Int) (w : World) :
    Calls Try.prog 22 #[.int .i64 a0] w fun e w' => e = .returned (pastV (evP a0)) ∧ Below w.heap.size w w' := by
  have hu36 := Try.underlying36
  obtain ⟨res, hres⟩ : ∃ r, pastV (evP a0) = r := ⟨_, rfl⟩
  rw [hres]
  have HRES := hd hres
  clear hres
  go_enter Try.func22, Try.ntmps22
  go_wp2_with (first | ((with_reducible refine gate_dst (N := 2) rfl ?_); refine box_event ?hg (N := 2) ?hd (cs := #[.int .i64 0, .int .u8 0, .int .i64 0, .string (⟨#[]⟩ : ByteArray), .string (⟨#[]⟩ : ByteArray), .int .i64 0, .int .i64 0, .int .u8 0]) (t := 36) ?hr ?_; (case hd => rfl); (case hg => rfl); (case hr => first | (go_simp; done) | (go_simp; rfl)); intro g1 hg w1 hbox hb; have HG := hd hg; have HBOX := hd hbox; have HB := hd hb; clear hg hbox hb) | ((with_reducible refine gate_dst (N := 31) rfl ?_); refine holdE_ ?_))
  refine ⟨?_⟩
  generalize e1 : wrap64 (1 + a0.tmod 8) = d
  generalize e2 : wrap64 (1 + (wrap64 (a0.tdiv 8)).tmod 3) % 256 = c
  generalize e3 : wrap64 (wrap64 (d * 1000) + wrap64 (wrap64 (c * wrap64 (1 + (wrap64 (d * 37)).tmod 11)) * 900)) = tm
  generalize e4 : wrap64 (97 + d.tmod 3) % 256 = ch
  generalize wrap64 (wrap64 (c * wrap64 (1 + (wrap64 (d * 37)).tmod 11)) * 900) = z1
  generalize wrap64 (c * wrap64 (1 + (wrap64 (d * 37)).tmod 11)) = z2
  generalize wrap64 (1 + (wrap64 (d * 37)).tmod 11) = z3
  generalize (wrap64 (d * 37)).tmod 11 = z4
  generalize wrap64 (d * 37) = z5
  generalize wrap64 (d * 1000) = z6
  generalize wrap64 (97 + d.tmod 3) = z7
  generalize d.tmod 3 = z8
  generalize wrap64 (1 + (wrap64 (a0.tdiv 8)).tmod 3) = z9
  generalize (wrap64 (a0.tdiv 8)).tmod 3 = z10
  generalize wrap64 (a0.tdiv 8) = z11
  generalize a0.tmod 8 = z12
  have E1 := hd e1
  have E2 := hd e2
  have E3 := hd e3
  have E4 := hd e4
  clear e1 e2 e3 e4
  go_wp2_with (first | ((with_reducible refine gate_dst (N := 31) rfl ?_); refine Kd.R_lit (Kd.int .u8) _ 5 ?hg (N := 31) ?hd (xs := ([ch] : List Int)) (inner := [.int .u8 ch]) (ok := fun _ => True) (okp := fun _ => True) ?hr ?hp (fun _ hk => hk) trivial (Below.refl _ _) (Nat.le_refl _) (by simp) ?_; (case hd => rfl); (case hg => rfl); (case hr => first | (go_simp; done) | (go_simp; rfl)); (case hp => exact (Reps.one (show Kd.M (Kd.int .u8) _ _ _ ch [.int .u8 ch] from rfl) (Reps.none _ _))); intro v31 w2 ho hb hg_ hnew_; clear hg_ hnew_; have HBOX2 := hd (blk_below HBOX.out hb); have HB2 := hd (below_step HB.out hb); have HO := hd ho; have hcv := own_string (P := Try.prog) Try.underlying82 Try.underlying5 Try.underlying9 (Kd.own_of_R ho); clear hb ho) | ((with_reducible refine gate_dst (N := 5) rfl ?_); refine holdE_ ?_))
  refine ⟨?_⟩
  generalize e5 : wrap64 (1 + d.tmod 4) = nn
  generalize e6 : wrap64 (1 + d.tmod 7) = cc
  generalize e7 : strOfNums [ch] = sn
  generalize d.tmod 4 = z13
  generalize d.tmod 7 = z14
  have E5 := hd e5
  have E6 := hd e6
  have E7 := hd e7
  clear e5 e6 e7 hcv
  go_wp2_with (first | ((with_reducible refine gate_dst (N := 5) rfl ?_); refine box_event ?hg (N := 5) ?hd (cs := #[.int .i64 0, .int .u8 0, .int .i64 0, .string (⟨#[]⟩ : ByteArray), .string (⟨#[]⟩ : ByteArray), .int .i64 0, .int .i64 0, .int .u8 0]) (t := 36) ?hr ?_; (case hd => rfl); (case hg => rfl); (case hr => first | (go_simp; done) | (go_simp; rfl)); intro g2 hg w3 hbox hb; have HG2 := hd hg; have HBOX3 := hd (blk_below HBOX2.out hb); have HB3 := hd (below_step HB2.out hb); have HP3 := hd hbox; clear hg hbox hb) | ((with_reducible refine gate_store (t := 36) (p := 5) rfl ?_); refine wpList_store_row rfl 36 (.tmp 5) (.tmp 39) rfl g2 #[.int .i64 d, .int .u8 c, .int .i64 tm, .string sn, .string (⟨#[117]⟩ : ByteArray), .int .i64 nn, .int .i64 cc, .int .u8 0] rfl rfl 36 _ HP3.out (by kernel_rfl) rfl (by simp [Value.oneCell']) ?_; refine holdE_ ?_))
  refine ⟨?_⟩
  have hne : g1 ≠ g2 := fun e => by have := blk_lt HBOX2.out; have := HG2.out; omega
  have HNE := hd hne
  have HP4 : Hd ((w3.setRow g2 #[.int .i64 d, .int .u8 c, .int .i64 tm, .string sn, .string (⟨#[117]⟩ : ByteArray), .int .i64 nn, .int .i64 cc, .int .u8 0]).heap[g2]? = some (.cells #[.int .i64 d, .int .u8 c, .int .i64 tm, .string sn, .string (⟨#[117]⟩ : ByteArray), .int .i64 nn, .int .i64 cc, .int .u8 0] 36 (0, 0))) := hd (setRow_heap _ _ _ _ _ _ HP3.out)
  have HBOX4 : Hd ((w3.setRow g2 #[.int .i64 d, .int .u8 c, .int .i64 tm, .string sn, .string (⟨#[117]⟩ : ByteArray), .int .i64 nn, .int .i64 cc, .int .u8 0]).heap[g1]? = _) := hd ((setRow_other _ _ _ _ hne).trans HBOX3.out)
  have HB4 : Hd (Below w.heap.size w (w3.setRow g2 #[.int .i64 d, .int .u8 c, .int .i64 tm, .string sn, .string (⟨#[117]⟩ : ByteArray), .int .i64 nn, .int .i64 cc, .int .u8 0])) := hd (below_setRow HB3.out (by have := HG2.out; have := HB2.out.size; omega) _)
  clear HP3 HBOX3 HB3 HBOX2 hne
  generalize w3.setRow g2 _ = w4 at HP4 HBOX4 HB4 ⊢
  have hcg20 : w4.cell? ⟨g2, 0, none⟩ = some (.int .i64 d) := (blk_cell HP4.out 0).trans rfl
  have hcg21 : w4.cell? ⟨g2, 1, none⟩ = some (.int .u8 c) := (blk_cell HP4.out 1).trans rfl
  have hcg22 : w4.cell? ⟨g2, 2, none⟩ = some (.int .i64 tm) := (blk_cell HP4.out 2).trans rfl
  have hcg23 : w4.cell? ⟨g2, 3, none⟩ = some (.string sn) := (blk_cell HP4.out 3).trans rfl
  have hcg24 : w4.cell? ⟨g2, 4, none⟩ = some (.string (⟨#[117]⟩ : ByteArray)) := (blk_cell HP4.out 4).trans rfl
  have hcg25 : w4.cell? ⟨g2, 5, none⟩ = some (.int .i64 nn) := (blk_cell HP4.out 5).trans rfl
  have hcg26 : w4.cell? ⟨g2, 6, none⟩ = some (.int .i64 cc) := (blk_cell HP4.out 6).trans rfl
  have hcg27 : w4.cell? ⟨g2, 7, none⟩ = some (.int .u8 0) := (blk_cell HP4.out 7).trans rfl
  have hfz := blk_frozen HP4.out 7
  by_cases c3 : c = 3
  · have c3b : (c == 3) = true := beq_iff_eq.mpr c3
    have C3 := hd c3
    clear c3
    go_wp2_with (first | ((with_reducible refine gate_dst (N := 47) rfl ?_); refine holdE_ ?_))
    refine ⟨?_⟩
    generalize e8 : wrap64 (3 + d.tmod 6) % 256 = st
    have E8 := hd e8
    clear e8
    have HP5 : Hd ((w4.setCell ⟨g2, 7, none⟩ (.int .u8 st)).heap[g2]? = some (.cells #[.int .i64 d, .int .u8 c, .int .i64 tm, .string sn, .string (⟨#[117]⟩ : ByteArray), .int .i64 nn, .int .i64 cc, .int .u8 st] 36 (0, 0))) := hd (blk_put HP4.out 7 _ rfl)
    have HBOX5 : Hd ((w4.setCell ⟨g2, 7, none⟩ (.int .u8 st)).heap[g1]? = _) := hd (blk_far HBOX4.out HNE.out _)
    have HB5 : Hd (Below w.heap.size w (w4.setCell ⟨g2, 7, none⟩ (.int .u8 st))) := hd (below_set HB4.out (by have := HG2.out; have := HB2.out.size; omega))
    clear HP4 HBOX4 HB4 hfz
    clear hcg20
    clear hcg21
    clear hcg22
    clear hcg23
    clear hcg24
    clear hcg25
    clear hcg26
    clear hcg27
    generalize w4.setCell ⟨g2, 7, none⟩ (.int .u8 st) = w5 at HP5 HBOX5 HB5 ⊢
    have hcg20 : w5.cell? ⟨g2, 0, none⟩ = some (.int .i64 d) := (blk_cell HP5.out 0).trans rfl
    have hcg21 : w5.cell? ⟨g2, 1, none⟩ = some (.int .u8 c) := (blk_cell HP5.out 1).trans rfl
    have hcg22 : w5.cell? ⟨g2, 2, none⟩ = some (.int .i64 tm) := (blk_cell HP5.out 2).trans rfl
    have hcg23 : w5.cell? ⟨g2, 3, none⟩ = some (.string sn) := (blk_cell HP5.out 3).trans rfl
    have hcg24 : w5.cell? ⟨g2, 4, none⟩ = some (.string (⟨#[117]⟩ : ByteArray)) := (blk_cell HP5.out 4).trans rfl
    have hcg25 : w5.cell? ⟨g2, 5, none⟩ = some (.int .i64 nn) := (blk_cell HP5.out 5).trans rfl
    have hcg26 : w5.cell? ⟨g2, 6, none⟩ = some (.int .i64 cc) := (blk_cell HP5.out 6).trans rfl
    have hcg27 : w5.cell? ⟨g2, 7, none⟩ = some (.int .u8 st) := (blk_cell HP5.out 7).trans rfl
    go_wp2_with (first | ((with_reducible refine gate_store (t := 36) (p := 2) rfl ?_); refine wpList_store_row rfl 36 (.tmp 2) (.tmp 47) rfl g1 #[.int .i64 d, .int .u8 c, .int .i64 tm, .string sn, .string (⟨#[117]⟩ : ByteArray), .int .i64 nn, .int .i64 cc, .int .u8 st] rfl rfl 36 _ HBOX5.out (by kernel_rfl) rfl (by simp [Value.oneCell']) ?_; refine holdE_ ?_))
    refine ⟨?_⟩
    have HR : Hd ((w5.setRow g1 #[.int .i64 d, .int .u8 c, .int .i64 tm, .string sn, .string (⟨#[117]⟩ : ByteArray), .int .i64 nn, .int .i64 cc, .int .u8 st]).heap[g1]? = some (.cells #[.int .i64 d, .int .u8 c, .int .i64 tm, .string sn, .string (⟨#[117]⟩ : ByteArray), .int .i64 nn, .int .i64 cc, .int .u8 st] 36 (0, 0))) := hd (setRow_heap _ _ _ _ _ _ HBOX5.out)
    have HBR : Hd (Below w.heap.size w (w5.setRow g1 #[.int .i64 d, .int .u8 c, .int .i64 tm, .string sn, .string (⟨#[117]⟩ : ByteArray), .int .i64 nn, .int .i64 cc, .int .u8 st])) := hd (below_setRow HB5.out (by have := HG.out; omega) _)
    generalize w5.setRow g1 _ = w9 at HR HBR ⊢
    go_wp2
    refine bodyPost_ret (results_cell_row rfl _ _ g1 36 #[.int .i64 d, .int .u8 c, .int .i64 tm, .string sn, .string (⟨#[117]⟩ : ByteArray), .int .i64 nn, .int .i64 cc, .int .u8 st] (0, 0) _ rfl HR.out Try.underlying36 rfl (by kernel_rfl)) rfl ?_
    exact ⟨by rw [← HRES.out]; unfold evP evG pastV pastCs; simp only [E1.out, E2.out, E3.out, E4.out, E5.out, E6.out, E7.out, E8.out, if_pos C3.out], HBR.out⟩
  · have c3b : (c == 3) = false := beq_eq_false_iff_ne.mpr c3
    have C3 := hd c3
    clear c3
    go_wp2_with (first | ((with_reducible refine gate_store (t := 36) (p := 2) rfl ?_); refine wpList_store_row rfl 36 (.tmp 2) (.tmp 47) rfl g1 #[.int .i64 d, .int .u8 c, .int .i64 tm, .string sn, .string (⟨#[117]⟩ : ByteArray), .int .i64 nn, .int .i64 cc, .int .u8 0] rfl rfl 36 _ HBOX4.out (by kernel_rfl) rfl (by simp [Value.oneCell']) ?_; refine holdE_ ?_))
    refine ⟨?_⟩
    have HR : Hd ((w4.setRow g1 #[.int .i64 d, .int .u8 c, .int .i64 tm, .string sn, .string (⟨#[117]⟩ : ByteArray), .int .i64 nn, .int .i64 cc, .int .u8 0]).heap[g1]? = some (.cells #[.int .i64 d, .int .u8 c, .int .i64 tm, .string sn, .string (⟨#[117]⟩ : ByteArray), .int .i64 nn, .int .i64 cc, .int .u8 0] 36 (0, 0))) := hd (setRow_heap _ _ _ _ _ _ HBOX4.out)
    have HBR : Hd (Below w.heap.size w (w4.setRow g1 #[.int .i64 d, .int .u8 c, .int .i64 tm, .string sn, .string (⟨#[117]⟩ : ByteArray), .int .i64 nn, .int .i64 cc, .int .u8 0])) := hd (below_setRow HB4.out (by have := HG.out; omega) _)
    generalize w4.setRow g1 _ = w9 at HR HBR ⊢
    go_wp2
    refine bodyPost_ret (results_cell_row rfl _ _ g1 36 #[.int .i64 d, .int .u8 c, .int .i64 tm, .string sn, .string (⟨#[117]⟩ : ByteArray), .int .i64 nn, .int .i64 cc, .int .u8 0] (0, 0) _ rfl HR.out Try.underlying36 rfl (by kernel_rfl)) rfl ?_
    exact ⟨by rw [← HRES.out]; unfold evP evG pastV pastCs; simp only [E1.out, E2.out, E3.out, E4.out, E5.out, E6.out, E7.out, if_neg C3.out], HBR.out⟩
end Go.Proofs.Ytinpgejkkfpckaa.Pr
