/-
  account's store that New did not make: noughts and ErrNil.
-/
import Derived.Test.YtinpgejkkfpckaaHSt
namespace Go.Proofs.Ytinpgejkkfpckaa.Pr
open Go.RowKit Go.Proofs.YtinpgejkkfpckaaW.PrintWords Go.Proofs.YtinpgejkkfpckaaW.PrintLast Go.Proofs.YtinpgejkkfpckaaW.PrintMore Go.Proofs.YtinpgejkkfpckaaG
set_option linter.unusedVariables false
set_option linter.unusedSimpArgs false
/-- A store that New did not make. -/
def NilSt (w : World) (v : Value) : Prop := v = .pointer none ∨ ∃ s, v = .pointer (some ⟨s, 0, none⟩) ∧ w.cell? ⟨s, 0, none⟩ = some (.map none)
theorem NilSt.below {w w' : World} {v : Value} (h : NilSt w v) (hb : Below w.heap.size w w') : NilSt w' v := by
  rcases h with h | ⟨s, h, hc⟩
  · exact .inl h
  · exact .inr ⟨s, h, pw_cell_below hb hc⟩
set_option maxHeartbeats 400000 in
theorem none_nil (v : Value) (w : World) (h : NilSt w v) : Calls Try.prog 35 #[v] w fun e w' => e = .returned (.bool true) ∧ Below w.heap.size w w' := by
  rcases h with rfl | ⟨s, rfl, hc⟩
  · go_enter Try.func35, Try.ntmps35
    go_wp2
    go_ret
    exact ⟨rfl, Below.refl _ _⟩
  · have hq := fun w' => run_eql_map_nil (P := Try.prog) w' 68 74 36 none u68
    go_enter Try.func35, Try.ntmps35
    go_wp2
    go_ret
    exact ⟨rfl, Below.refl _ _⟩
set_option maxHeartbeats 400000 in
theorem wrong_nil (v : Value) (fr tt : Int) (w : World) (h : NilSt w v) : Calls Try.prog 38 #[v, .int .i64 fr, .int .i64 tt] w fun e w' => e = .returned (.int .i64 1) ∧ Below w.heap.size w w' := by
  go_enter Try.func38, Try.ntmps38
  go_wp2_with fail
  refine (none_nil v w h).mono ?_
  rintro e w1 ⟨rfl, b1⟩
  go_wp2
  go_ret
  exact ⟨rfl, b1⟩
set_option maxHeartbeats 400000 in
theorem take_nil (v p : Value) (w : World) (h : NilSt w v) (hp : ∃ cs, p = .agg cs ∧ cs.size = 8) : Calls Try.prog 17 #[v, p] w fun e w' => e = .returned (.tuple #[.bool false, .int .i64 1]) ∧ Below w.heap.size w w' := by
  obtain ⟨cs, rfl, hs⟩ := hp
  have HB := hd (below_alloc (Below.refl _ w) (.cells cs 36))
  go_enter Try.func17, Try.ntmps17
  go_wp2_with fail
  refine (none_nil v _ (h.below HB.out)).mono ?_
  rintro e w1 ⟨rfl, b1⟩
  have HB1 : Hd (Below w.heap.size w w1) := hd (below_then HB.out HB.out.size b1)
  clear b1
  go_wp2
  go_ret2
  exact ⟨rfl, HB1.out⟩
set_option maxHeartbeats 400000 in
theorem used_nil (v : Value) (acc : ByteArray) (fr tt : Int) (w : World) (h : NilSt w v) : Calls Try.prog 18 #[v, .string acc, .int .i64 fr, .int .i64 tt] w fun e w' => e = .returned (.tuple #[.int .i64 0, .bool false, .int .i64 1]) ∧ Below w.heap.size w w' := by
  go_enter Try.func18, Try.ntmps18
  go_wp2_with fail
  refine (wrong_nil v fr tt w h).mono ?_
  rintro e w1 ⟨rfl, b1⟩
  go_wp2
  refine bodyPost_ret (results_list (rs := [.tmp 8, .tmp 9, .tmp 10]) rfl (by simp) (.tmp (.tmp (.tmp .nil)))) rfl ?_
  exact ⟨rfl, b1⟩
set_option maxHeartbeats 400000 in
theorem roll_nil (v : Value) (acc : ByteArray) (fr tt sp : Int) (w : World) (h : NilSt w v) : Calls Try.prog 40 #[v, .string acc, .int .i64 fr, .int .i64 tt, .int .i64 sp] w fun e w' => e = .returned (.tuple #[.slice none 0 0, .bool false, .int .i64 1]) ∧ Below w.heap.size w w' := by
  go_enter Try.func40, Try.ntmps40
  go_wp2_with fail
  refine (wrong_nil v fr tt w h).mono ?_
  rintro e w1 ⟨rfl, b1⟩
  go_wp2
  refine bodyPost_ret (results_list (rs := [.tmp 10, .tmp 11, .tmp 12]) rfl (by simp) (.tmp (.tmp (.tmp .nil)))) rfl ?_
  exact ⟨rfl, b1⟩
set_option maxHeartbeats 400000 in
theorem hours_nil (v : Value) (acc : ByteArray) (fr tt : Int) (w : World) (h : NilSt w v) : Calls Try.prog 20 #[v, .string acc, .int .i64 fr, .int .i64 tt] w fun e w' => e = .returned (.tuple #[.slice none 0 0, .bool false, .int .i64 1]) ∧ Below w.heap.size w w' := by
  go_enter Try.func20, Try.ntmps20
  go_wp2_with fail
  refine (roll_nil v acc fr tt 3600 w h).mono ?_
  rintro e w1 ⟨rfl, b1⟩
  go_wp2
  refine bodyPost_ret (results_list (rs := [.tmp 8, .tmp 9, .tmp 10]) rfl (by simp) (.tmp (.tmp (.tmp .nil)))) rfl ?_
  exact ⟨rfl, b1⟩
set_option maxHeartbeats 400000 in
theorem days_nil (v : Value) (acc : ByteArray) (fr tt : Int) (w : World) (h : NilSt w v) : Calls Try.prog 19 #[v, .string acc, .int .i64 fr, .int .i64 tt] w fun e w' => e = .returned (.tuple #[.slice none 0 0, .bool false, .int .i64 1]) ∧ Below w.heap.size w w' := by
  go_enter Try.func19, Try.ntmps19
  go_wp2_with fail
  refine (roll_nil v acc fr tt 86400 w h).mono ?_
  rintro e w1 ⟨rfl, b1⟩
  go_wp2
  refine bodyPost_ret (results_list (rs := [.tmp 8, .tmp 9, .tmp 10]) rfl (by simp) (.tmp (.tmp (.tmp .nil)))) rfl ?_
  exact ⟨rfl, b1⟩
set_option maxHeartbeats 400000 in
theorem runs_nil (v : Value) (name : ByteArray) (w : World) (h : NilSt w v) : Calls Try.prog 27 #[v, .string name] w fun e w' => e = .returned (.slice none 0 0) ∧ Below w.heap.size w w' := by
  go_enter Try.func27, Try.ntmps27
  go_wp2_with fail
  refine (none_nil v w h).mono ?_
  rintro e w1 ⟨rfl, b1⟩
  go_wp2
  go_ret
  exact ⟨rfl, b1⟩
set_option maxHeartbeats 400000 in
theorem copy_nil (v : Value) (w : World) (h : NilSt w v) : Calls Try.prog 28 #[v] w fun e w' => e = .returned (.pointer none) ∧ Below w.heap.size w w' := by
  go_enter Try.func28, Try.ntmps28
  go_wp2_with fail
  refine (none_nil v w h).mono ?_
  rintro e w1 ⟨rfl, b1⟩
  go_wp2
  go_ret
  exact ⟨rfl, b1⟩
end Go.Proofs.Ytinpgejkkfpckaa.Pr
