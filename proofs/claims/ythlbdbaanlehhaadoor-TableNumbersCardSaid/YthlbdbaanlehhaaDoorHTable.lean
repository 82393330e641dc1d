/-
  table.Table, walked by hand: names and rows go through the builder, line by line.
-/
import Derived.Test.YthlbdbaanlehhaaDoorHLine
namespace Go.Proofs.YthlbdbaanlehhaaDoor.Pr
open Go.RowKit Go.Proofs.YthlbdbaanlehhaaDoorW.PrintWords Go.Proofs.YthlbdbaanlehhaaDoorW.PrintLast Go.Proofs.YthlbdbaanlehhaaDoorW.PrintMore Go.Proofs.YthlbdbaanlehhaaDoorG Go.Proofs.YthlbdbaanlehhaaDoor
set_option linter.unusedVariables false
set_option linter.unusedSimpArgs false
/-- The lines, one behind another, behind what there is. -/
def linesF (k : Nat) (cols : List S49) : List UInt8 → List (List ByteArray) → Option (List UInt8)
  | acc, [] => some acc
  | acc, r :: rs => (table_Row.f k cols r).bind fun b => if acc.length + (b.size + 1) ≤ 140737488355328 then linesF k cols (acc ++ (b.data.toList ++ [10])) rs else none
def table_Table.f (k : Nat) (l0 : List S49) (l1 : List (List ByteArray)) : Option ByteArray :=
  if (l0.length + 1) * 16 ≤ 140737488355328 then (linesF k l0 [] (l0.map S49.f0 :: l1)).bind fun t => some ⟨t.toArray⟩ else none
theorem lines_mono (k : Nat) (cols : List S49) (rs : List (List ByteArray)) : ∀ acc, LeO (linesF k cols acc rs) (linesF (k + 1) cols acc rs) := by
  induction rs with
  | nil => intro acc; exact LeO.refl _
  | cons r rs ih =>
    intro acc
    simp only [linesF]
    exact LeO.bind (table_Row.mono _ _ _) (fun b => LeO.ite (ih _) (LeO.refl _))
theorem table_Table.mono : ∀ a0 a1 k, LeO (table_Table.f k a0 a1) (table_Table.f (k + 1) a0 a1) := fun a0 a1 k => by
  unfold table_Table.f
  exact LeO.ite (LeO.bind (lines_mono _ _ _ _) (fun _ => LeO.refl _)) (LeO.refl _)
theorem hold_t {p : Prop} (h : Hd p) : p := h.out
set_option maxRecDepth 100000 in
set_option maxHeartbeats 1000000 in
theorem table_walk (k : Nat) (A : Option Addr) (c : Nat) (cols : List S49) (A1 : Option Addr) (c1 : Nat) (rows : List (List ByteArray)) (out : List UInt8) (w : World) (hr0 : Kd.C k49 w A cols.length cols) (hc0 : cols.length ≤ c) (hr1 : Kd.C (Kd.slice 9 Kd.string) w A1 rows.length rows) (hc1 : rows.length ≤ c1)
    (hb : (cols.length + 1) * 16 ≤ 140737488355328) (hf : linesF k cols [] (cols.map S49.f0 :: rows) = some out) :
    Calls Tryd.prog 16 #[.slice A cols.length c, .slice A1 rows.length c1] w fun e w' => e = .returned (.string ⟨out.toArray⟩) ∧ Below w.heap.size w w' := by
  have hlr : rows.length ≤ 9223372036854775807 := hr1.2.1
  have HR0 := hd hr0
  have HR1 := hd hr1
  have HF := hd hf
  clear hr0 hr1 hf
  obtain ⟨x, hx⟩ : ∃ x, w.heap.size = x := ⟨_, rfl⟩
  have HX := hd hx
  go_enter Tryd.func16, Tryd.ntmps16
  go_wp2_with fail
  have HW1 : Hd (((w.alloc (.cells #[.slice A cols.length c] 39)).alloc (.cells #[.pointer none, .slice none 0 0] 73)).heap.size = x + 2) := hd (by simp [hx])
  have HXB : Hd (((w.alloc (.cells #[.slice A cols.length c] 39)).alloc (.cells #[.pointer none, .slice none 0 0] 73)).heap[x]? = some (.cells #[.slice A cols.length c] 39 (0, 0))) := hd (by rw [← hx]; exact blk_alloc (blk_new _ _) _)
  have HBB : Hd (((w.alloc (.cells #[.slice A cols.length c] 39)).alloc (.cells #[.pointer none, .slice none 0 0] 73)).heap[x + 1]? = some (.cells #[.pointer none, .slice none 0 0] 73 (0, 0))) := hd (by rw [← hx]; have := blk_new (w.alloc (.cells #[.slice A cols.length c] 39)) (.cells #[.pointer none, .slice none 0 0] 73); simpa using this)
  have HBW : Hd (Below x w ((w.alloc (.cells #[.slice A cols.length c] 39)).alloc (.cells #[.pointer none, .slice none 0 0] 73))) := hd (by rw [← hx]; exact below_alloc (below_alloc (Below.refl _ _) _) _)
  clear hx
  generalize (w.alloc (.cells #[.slice A cols.length c] 39)).alloc (.cells #[.pointer none, .slice none 0 0] 73) = W1 at HW1 HXB HBB HBW ⊢
  go_loopw [7, 15] (fun v i wr => ∃ j : Nat, i = .int .i64 (j : Int) ∧ j ≤ cols.length ∧ Hd (Kd.R Kd.string 9 wr (x + 2) (fun _ => True) v ((cols.take j).map S49.f0)) ∧ Hd (Below (x + 2) W1 wr)) (fun _ i _ => cols.length - (intOf i).toNat)
  case atStart => exact ⟨0, rfl, by omega, hd (by simp only [List.take_zero, List.map_nil]; exact Kd.R_nil _ _ _ _ _), hd (Below.refl _ _)⟩
  case round =>
    obtain ⟨j, rfl, hj, HN, HBR⟩ := hrel
    have hs1 : x + 2 ≤ wr.heap.size := by have := HBR.out.size; have := HW1.out; omega
    have hxc : wr.cell? ⟨x, 0, none⟩ = some (.slice A cols.length c) := (blk_cell ((HBR.out.block x (by omega)).trans HXB.out) 0).trans rfl
    have HBWR : Hd (Below x w wr) := hd (HBW.out.trans (HBR.out.mono (by omega)))
    by_cases hlt : j < cols.length
    · obtain ⟨ad, rfl, h0, h1, h2⟩ := at_T49 (Kd.C_below HR0.out (by rw [HX.out]; exact HBWR.out)) (j : Int) (by omega) (by omega)
      rw [Int.toNat_natCast] at h0 h1 h2
      obtain ⟨y, hy⟩ : ∃ y, rd_T49 cols (j : Int) = y := ⟨_, rfl⟩
      rw [hy] at h0 h1 h2
      have HY : Hd (cols[j] = y) := hd (by rw [← hy]; unfold rd_T49; simp [List.getD_eq_getElem?_getD, hlt])
      clear hy
      have HN2 : Hd (Kd.R Kd.string 9 (wr.alloc (.cells #[.string y.f0, .int .i64 y.f1, .bool y.f2] 49)) (x + 2) (fun _ => True) u7 ((cols.take j).map S49.f0)) := hd (Kd.R_alloc HN.out _)
      have HBR2 : Hd (Below (x + 2) W1 (wr.alloc (.cells #[.string y.f0, .int .i64 y.f1, .bool y.f2] 49))) := hd (HBR.out.trans ((below_alloc (Below.refl _ wr) _).mono hs1))
      clear HN HBR
      go_wp2_with ((with_reducible refine gate_builtin (b := .append) (xs := #[.tmp 19, .tmp 22]) rfl ?_); at_builtin; refine hold_t ?_)
      refine ⟨?_⟩
      refine Kd.R_append Kd.string (w0 := W1) (x + 2) rfl (.tmp 19) (.tmp 22) 46 9 (.string ByteArray.empty) 16 rfl Tryd.underlying46 info9 rfl (by decide) (by omega) u7 ((cols.take j).map S49.f0) y.f0 [.string y.f0] (fun _ => True) (fun _ => False) rfl ?aX rfl (fun _ hk => hk.elim) (fun _ _ => trivial) HN2.out HBR2.out ?aS ?aL ?_
      case aX => rw [show (wr.alloc (Obj.cells #[.string y.f0, .int .i64 y.f1, .bool y.f2] 49)).heap.size = wr.heap.size + 1 by simp]; rfl
      case aS => simp; omega
      case aL => simp; omega
      intro v1 w1 hv1 hb1 hg1 hat1
      go_wp2_with fail
      go_roundw
      case rel => exact ⟨j + 1, by go_num, by omega, hd (by rw [List.take_succ_eq_append_getElem hlt, List.map_append, HY.out]; exact hv1), hd hb1⟩
      case measure => simp [intOf]; omega
    · have ej : (cols.take j).map S49.f0 = cols.map S49.f0 := by rw [List.take_of_length_le (by omega)]
      have HN1 : Hd (Kd.R Kd.string 9 wr (x + 2) (fun _ => True) u7 (cols.map S49.f0)) := hd (by rw [← ej]; exact HN.out)
      clear HN ej
      obtain ⟨names, hnm⟩ : ∃ names, cols.map S49.f0 = names := ⟨_, rfl⟩
      have HF1 : Hd (linesF k cols [] (names :: rows) = some out) := hd (by rw [← hnm]; exact HF.out)
      rw [hnm] at HN1
      clear HF hnm
      obtain ⟨Au, cu, rfl, hcu, hK⟩ := Kd.R_reads HN1.out
      have HNK := hd hK
      have HI0 : Hd (Lib.IsBuilderF 73 5 x (x + 1) (Lib.byteCells []) wr) := hd (Or.inl ⟨by omega, .slice none 0 0, (HBR.out.block (x + 1) (by omega)).trans HBB.out, ⟨rfl, .inl ⟨rfl, rfl⟩⟩, by simp [Value.ownBlock]⟩)
      have hl := HF1.out
      simp only [linesF] at hl
      obtain ⟨r1, hr1, hl2⟩ := Option.bind_eq_some_iff.1 hl
      by_cases hlen : ([] : List UInt8).length + (r1.size + 1) ≤ 140737488355328
      · rw [if_pos hlen] at hl2
        have HL2 := hd hl2
        have HRR := hd hr1
        have HLEN := hd hlen
        have HXC := hd hxc
        have HCC : Hd (Kd.C k49 wr A cols.length cols) := hd (Kd.C_below HR0.out (by rw [HX.out]; exact HBWR.out))
        clear hK hl hr1 hl2 hlen hxc HN1
        have hs0 : x ≤ wr.heap.size := by omega
        go_wp2_with fail
        refine (line_any k x (x + 1) x [] Au cu names A c cols r1 wr HI0.out HXC.out hs0 HNK.out hcu HCC.out hc0 HRR.out HLEN.out).mono ?_
        rintro e w1 ⟨rfl, hI1, hb1, ho1⟩
        have HI1 := hd hI1
        have HB1 : Hd (Below x w w1) := hd (HBWR.out.trans hb1)
        have HXB1 : Hd (w1.heap[x]? = some (.cells #[.slice A cols.length c] 39 (0, 0))) := hd (ho1 x _ ((HBR.out.block x (by omega)).trans HXB.out) (by simp) (by intro c fz e; injection e with _ e; simp at e))
        clear hI1 hb1 ho1 HI0 HNK HRR HLEN HCC HXC HF1 HBR HBWR HXB HBB HBW
        generalize ([] : List UInt8) ++ (r1.data.toList ++ [10]) = acc1 at HI1 HL2
        go_wp2_with fail
        go_loopw [30] (fun i wr => ∃ (j : Nat) (acc : List UInt8), i = .int .i64 (j : Int) ∧ j ≤ rows.length ∧ Hd (linesF k cols acc (rows.drop j) = some out) ∧ Hd (Lib.IsBuilderF 73 5 x (x + 1) (Lib.byteCells acc) wr) ∧ Hd (wr.heap[x]? = some (.cells #[.slice A cols.length c] 39 (0, 0))) ∧ Hd (Below x w wr)) (fun i _ => rows.length - (intOf i).toNat)
        case atStart => exact ⟨0, acc1, rfl, by omega, hd (by rw [List.drop_zero]; exact HL2.out), HI1, HXB1, HB1⟩
        case round =>
          rename_i wr0
          obtain ⟨i, acc, rfl, hi, HL, HI, HXB, HBW⟩ := hrel
          have hs2 : x < wr.heap.size := blk_lt HXB.out
          have hs3 : x ≤ wr.heap.size := by omega
          by_cases hlt : i < rows.length
          · obtain ⟨ad, A2, c2, rfl, g0, g1, g2⟩ := at_L7 (Kd.C_below HR1.out (by rw [HX.out]; exact HBW.out)) (i : Int) (by omega) (by omega)
            rw [Int.toNat_natCast] at g0
            have HY : Hd (rows[i] = rd_L7 rows (i : Int)) := hd (by unfold rd_L7; simp [List.getD_eq_getElem?_getD, hlt])
            generalize rd_L7 rows (i : Int) = cells at g0 g1 g2 HY
            have HG := hd g2
            have HXC : Hd (wr.cell? ⟨x, 0, none⟩ = some (.slice A cols.length c)) := hd ((blk_cell HXB.out 0).trans rfl)
            have HCC : Hd (Kd.C k49 wr A cols.length cols) := hd (Kd.C_below HR0.out (by rw [HX.out]; exact HBW.out))
            have hl := HL.out
            rw [List.drop_eq_getElem_cons hlt, HY.out] at hl
            simp only [linesF] at hl
            obtain ⟨r2, hr2, hl3⟩ := Option.bind_eq_some_iff.1 hl
            by_cases hlen2 : acc.length + (r2.size + 1) ≤ 140737488355328
            · rw [if_pos hlen2] at hl3
              have HL3 := hd hl3
              have HRR := hd hr2
              have HLEN := hd hlen2
              clear hl hr2 hl3 hlen2 g2 HL HY
              go_wp2_with fail
              refine (line_any k x (x + 1) x acc A2 c2 cells A c cols r2 wr HI.out HXC.out hs3 HG.out g1 HCC.out hc0 HRR.out HLEN.out).mono ?_
              rintro e w2 ⟨rfl, hI2, hb2, ho2⟩
              have HI2 := hd hI2
              have HB2 : Hd (Below x w w2) := hd (HBW.out.trans hb2)
              have HXB2 : Hd (w2.heap[x]? = some (.cells #[.slice A cols.length c] 39 (0, 0))) := hd (ho2 x _ HXB.out (by simp) (by intro c fz e; injection e with _ e; simp at e))
              clear hI2 hb2 ho2 HI HG HRR HLEN HCC HXC HXB HBW g0 g1
              go_wp2_with fail
              go_roundw
              case rel => exact ⟨i + 1, acc ++ (r2.data.toList ++ [10]), by go_num, by omega, HL3, HI2, HXB2, HB2⟩
              case measure => simp [intOf]; omega
            · rw [if_neg hlen2] at hl3
              cases hl3
          · have he : acc = out := by
              have hl := HL.out
              rw [List.drop_eq_nil_of_le (by omega)] at hl
              simpa [linesF] using hl
            subst he
            clear HL
            go_wp2_with fail
            refine (Tryd.Builder_String_any_k x (x + 1) acc wr HI.out hs3).mono ?_
            rintro e w2 ⟨rfl, hI2, hb2, ho2⟩
            have HB2 : Hd (Below x w w2) := hd (HBW.out.trans hb2)
            clear hI2 hb2 ho2 HI
            go_wp2_with fail
            go_ret
            have e := HX.out
            rw [e]
            exact ⟨rfl, HB2.out⟩
      · rw [if_neg hlen] at hl2
        cases hl2
theorem table_Table.calls (k : Nat) (A0 : Option Addr) (c0 : Nat) (l0 : List S49) (A1 : Option Addr) (c1 : Nat) (l1 : List (List ByteArray)) (r : ByteArray) (w : World) (hr0 : Kd.C k49 w A0 l0.length l0) (hc0 : l0.length ≤ c0) (hr1 : Kd.C (Kd.slice 9 Kd.string) w A1 l1.length l1) (hc1 : l1.length ≤ c1) (h : table_Table.f k l0 l1 = some r) :
    Calls Tryd.prog 16 #[.slice A0 l0.length c0, .slice A1 l1.length c1] w fun e w' => e = .returned (.string r) ∧ Below w.heap.size w w' := by
  unfold table_Table.f at h
  split at h
  · rename_i hb
    obtain ⟨t, ht, h2⟩ := Option.bind_eq_some_iff.1 h
    cases h2
    exact table_walk k A0 c0 l0 A1 c1 l1 t w hr0 hc0 hr1 hc1 hb ht
  · cases h
end Go.Proofs.YthlbdbaanlehhaaDoor.Pr
