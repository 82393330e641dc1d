/-
  musterlaw27.AccountNone, by hand.
-/
import Derived.Test.YtinpgejkkfpckaaHNil
import Derived.Test.YtinpgejkkfpckaaHAwake
import Derived.Test.YtinpgejkkfpckaaO
namespace Go.Proofs.Ytinpgejkkfpckaa.Pr
open Go.RowKit Go.Proofs.YtinpgejkkfpckaaW.PrintWords Go.Proofs.YtinpgejkkfpckaaW.PrintLast Go.Proofs.YtinpgejkkfpckaaW.PrintMore Go.Proofs.YtinpgejkkfpckaaG
set_option linter.unusedVariables false
set_option linter.unusedSimpArgs false
open Go.Proofs.YtinpgejkkfpckaaO
set_option maxRecDepth 100000 in
set_option maxHeartbeats 4000000 in
theorem none_walk (p : S36) (a1 : ByteArray) (a2 a3 : Int) (w : World) : Calls Try.prog 9 #[.agg #[.int .i64 p.f0, .int .u8 p.f1, .int .i64 p.f2, .string p.f3, .string p.f4, .int .i64 p.f5, .int .i64 p.f6, .int .u8 p.f7], .string a1, .int .i64 a2, .int .i64 a3] w fun e w' => e = .returned (.bool true) ∧ Below w.heap.size w w' := by
  have hu36 := Try.underlying36
  go_enter Try.func9, Try.ntmps9
  go_wp2
  have HB0 := hd (below_alloc (below_alloc (below_alloc (Below.refl _ w) (.cells #[.int .i64 p.f0, .int .u8 p.f1, .int .i64 p.f2, .string p.f3, .string p.f4, .int .i64 p.f5, .int .i64 p.f6, .int .u8 p.f7] 36)) (.cells #[.map none, .slice none 0 0] 70)) (.cells #[.pointer none, .pointer (some ⟨w.heap.size + 1, 0, none⟩)] 29))
  have e1 : (w.alloc (.cells #[.int .i64 p.f0, .int .u8 p.f1, .int .i64 p.f2, .string p.f3, .string p.f4, .int .i64 p.f5, .int .i64 p.f6, .int .u8 p.f7] 36)).heap.size = w.heap.size + 1 := by simp
  have e2 : ((w.alloc (.cells #[.int .i64 p.f0, .int .u8 p.f1, .int .i64 p.f2, .string p.f3, .string p.f4, .int .i64 p.f5, .int .i64 p.f6, .int .u8 p.f7] 36)).alloc (.cells #[.map none, .slice none 0 0] 70)).heap.size = w.heap.size + 1 + 1 := by simp
  have HP := hd (blk_alloc (blk_alloc (blk_new w (.cells #[.int .i64 p.f0, .int .u8 p.f1, .int .i64 p.f2, .string p.f3, .string p.f4, .int .i64 p.f5, .int .i64 p.f6, .int .u8 p.f7] 36)) (.cells #[.map none, .slice none 0 0] 70)) (.cells #[.pointer none, .pointer (some ⟨w.heap.size + 1, 0, none⟩)] 29))
  have HZ := hd (blk_alloc (blk_new (w.alloc (.cells #[.int .i64 p.f0, .int .u8 p.f1, .int .i64 p.f2, .string p.f3, .string p.f4, .int .i64 p.f5, .int .i64 p.f6, .int .u8 p.f7] 36)) (.cells #[.map none, .slice none 0 0] 70)) (.cells #[.pointer none, .pointer (some ⟨w.heap.size + 1, 0, none⟩)] 29))
  have HA := hd (blk_new ((w.alloc (.cells #[.int .i64 p.f0, .int .u8 p.f1, .int .i64 p.f2, .string p.f3, .string p.f4, .int .i64 p.f5, .int .i64 p.f6, .int .u8 p.f7] 36)).alloc (.cells #[.map none, .slice none 0 0] 70)) (.cells #[.pointer none, .pointer (some ⟨w.heap.size + 1, 0, none⟩)] 29))
  rw [e1] at HZ
  rw [e2] at HA
  clear e1 e2
  generalize ((w.alloc _).alloc _).alloc _ = w1 at HB0 HP HZ HA ⊢
  have NP : ∀ wr, Below w1.heap.size w1 wr → NilSt wr (.pointer none) := fun _ _ => .inl rfl
  have NZ : ∀ wr, Below w1.heap.size w1 wr → NilSt wr (.pointer (some ⟨w.heap.size + 1, 0, none⟩)) := fun wr hb => .inr ⟨_, rfl, pw_cell_below hb ((blk_cell HZ.out 0).trans rfl)⟩
  have HNP := hd NP
  have HNZ := hd NZ
  clear NP NZ HZ
  go_loopw [28] (fun iv wr => ∃ j : Nat, j ≤ 2 ∧ iv = .int .i64 (j : Int) ∧ Hd (Below w1.heap.size w1 wr)) (fun iv _ => 2 - (intOf iv).toNat)
  case atStart => exact ⟨0, by omega, rfl, hd (Below.refl _ _)⟩
  case round =>
    obtain ⟨j, hj, rfl, HB⟩ := hrel
    have HPr := hd (blk_below HP.out HB.out)
    have q0 := (blk_cell HPr.out 0).trans rfl
    have q1 := (blk_cell HPr.out 1).trans rfl
    have q2 := (blk_cell HPr.out 2).trans rfl
    have q3 := (blk_cell HPr.out 3).trans rfl
    have q4 := (blk_cell HPr.out 4).trans rfl
    have q5 := (blk_cell HPr.out 5).trans rfl
    have q6 := (blk_cell HPr.out 6).trans rfl
    have q7 := (blk_cell HPr.out 7).trans rfl
    have n0 := (blk_cell (blk_below HA.out HB.out) 0).trans rfl
    have n1 := (blk_cell (blk_below HA.out HB.out) 1).trans rfl
    by_cases h2 : j = 2
    · subst h2
      go_wp2_with fail
      refine (awake_walk wr).mono ?_
      rintro e w2 ⟨rfl, b2⟩
      go_wp2
      go_ret
      exact ⟨rfl, below_then HB0.out HB0.out.size (below_then HB.out HB.out.size b2)⟩
    · by_cases h0 : j = 0
      · subst h0
        go_wp2_with fail
        refine (take_nil (.pointer none) _ _ (HNP.out _ HB.out) ⟨_, rfl, rfl⟩).mono ?_
        rintro e w2 ⟨rfl, b⟩
        have HB2 := hd (below_then HB.out HB.out.size b)
        clear b
        go_wp2_with fail
        refine (used_nil (.pointer none) a1 a2 a3 _ (HNP.out _ HB2.out)).mono ?_
        rintro e w3 ⟨rfl, b⟩
        have HB3 := hd (below_then HB2.out HB2.out.size b)
        clear b
        go_wp2_with fail
        refine (hours_nil (.pointer none) a1 a2 a3 _ (HNP.out _ HB3.out)).mono ?_
        rintro e w4 ⟨rfl, b⟩
        have HB4 := hd (below_then HB3.out HB3.out.size b)
        clear b
        go_wp2_with fail
        refine (days_nil (.pointer none) a1 a2 a3 _ (HNP.out _ HB4.out)).mono ?_
        rintro e w5 ⟨rfl, b⟩
        have HB5 := hd (below_then HB4.out HB4.out.size b)
        clear b
        go_wp2_with fail
        refine (runs_nil (.pointer none) a1 _ (HNP.out _ HB5.out)).mono ?_
        rintro e w6 ⟨rfl, b⟩
        have HB6 := hd (below_then HB5.out HB5.out.size b)
        clear b
        go_wp2_with fail
        refine (copy_nil (.pointer none) _ (HNP.out _ HB6.out)).mono ?_
        rintro e w7 ⟨rfl, b⟩
        have HB7 := hd (below_then HB6.out HB6.out.size b)
        clear b HB2 HB3 HB4 HB5 HB6
        go_wp2
        go_roundw
        case rel => exact ⟨1, by omega, by go_num, HB7⟩
        case measure => simp [intOf]
      · obtain rfl : j = 1 := by omega
        go_wp2_with fail
        refine (take_nil (.pointer (some ⟨w.heap.size + 1, 0, none⟩)) _ _ (HNZ.out _ HB.out) ⟨_, rfl, rfl⟩).mono ?_
        rintro e w2 ⟨rfl, b⟩
        have HB2 := hd (below_then HB.out HB.out.size b)
        clear b
        go_wp2_with fail
        refine (used_nil (.pointer (some ⟨w.heap.size + 1, 0, none⟩)) a1 a2 a3 _ (HNZ.out _ HB2.out)).mono ?_
        rintro e w3 ⟨rfl, b⟩
        have HB3 := hd (below_then HB2.out HB2.out.size b)
        clear b
        go_wp2_with fail
        refine (hours_nil (.pointer (some ⟨w.heap.size + 1, 0, none⟩)) a1 a2 a3 _ (HNZ.out _ HB3.out)).mono ?_
        rintro e w4 ⟨rfl, b⟩
        have HB4 := hd (below_then HB3.out HB3.out.size b)
        clear b
        go_wp2_with fail
        refine (days_nil (.pointer (some ⟨w.heap.size + 1, 0, none⟩)) a1 a2 a3 _ (HNZ.out _ HB4.out)).mono ?_
        rintro e w5 ⟨rfl, b⟩
        have HB5 := hd (below_then HB4.out HB4.out.size b)
        clear b
        go_wp2_with fail
        refine (runs_nil (.pointer (some ⟨w.heap.size + 1, 0, none⟩)) a1 _ (HNZ.out _ HB5.out)).mono ?_
        rintro e w6 ⟨rfl, b⟩
        have HB6 := hd (below_then HB5.out HB5.out.size b)
        clear b
        go_wp2_with fail
        refine (copy_nil (.pointer (some ⟨w.heap.size + 1, 0, none⟩)) _ (HNZ.out _ HB6.out)).mono ?_
        rintro e w7 ⟨rfl, b⟩
        have HB7 := hd (below_then HB6.out HB6.out.size b)
        clear b HB2 HB3 HB4 HB5 HB6
        go_wp2
        go_roundw
        case rel => exact ⟨2, by omega, by go_num, HB7⟩
        case measure => simp [intOf]
def musterlaw27_AccountNone.f (a0 a1 a2 : Int) (a3 a4 : ByteArray) (a5 a6 a7 : Int) (n : ByteArray) (fr tt : Int) : Option Bool := some true
theorem musterlaw27_AccountNone.calls (a0 a1 a2 : Int) (a3 a4 : ByteArray) (a5 a6 a7 : Int) (n : ByteArray) (fr tt : Int) (r : Bool) (w : World) (h : musterlaw27_AccountNone.f a0 a1 a2 a3 a4 a5 a6 a7 n fr tt = some r) :
    Calls Try.prog 9 #[.agg #[.int .i64 a0, .int .u8 a1, .int .i64 a2, .string a3, .string a4, .int .i64 a5, .int .i64 a6, .int .u8 a7], .string n, .int .i64 fr, .int .i64 tt] w fun e w' => e = .returned (.bool r) ∧ Below w.heap.size w w' := by
  cases h
  exact none_walk ⟨a0, a1, a2, a3, a4, a5, a6, a7⟩ n fr tt w
end Go.Proofs.Ytinpgejkkfpckaa.Pr
