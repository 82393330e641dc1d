/-
  The chapter's first example, walked by hand.
-/
import Derived.Test.YtafnjlgdjhegaaaHDone
import Derived.Test.YtafnjlgdjhegaaaHSame
import Derived.Lib.SlBytesConst
namespace Go.Proofs.Ytafnjlgdjhegaaa.Pr
open Go.RowKit Go.Proofs.YtafnjlgdjhegaaaW.PrintWords Go.Proofs.YtafnjlgdjhegaaaW.PrintLast Go.Proofs.YtafnjlgdjhegaaaW.PrintMore Go.Proofs.YtafnjlgdjhegaaaG
set_option linter.unusedVariables false
set_option linter.unusedSimpArgs false
theorem aw_l1 : session_Look.f [] 5 1 0 = some ([⟨5, 0, []⟩], 1, [], 0) := by kernel_rfl
theorem aw_d1 : session_Done.f [⟨5, 0, []⟩] 5 1 [97] = some ([⟨5, 0, [⟨1, [97]⟩]⟩], 0) := by kernel_rfl
theorem aw_l2 : session_Look.f [⟨5, 0, [⟨1, [97]⟩]⟩] 5 1 0 = some ([⟨5, 0, [⟨1, [97]⟩]⟩], 2, [97], 0) := by kernel_rfl
theorem aw_l3 : session_Look.f [⟨5, 0, [⟨1, [97]⟩]⟩] 5 2 1 = some ([⟨5, 1, []⟩], 1, [], 0) := by kernel_rfl
theorem aw_l4 : session_Look.f [⟨5, 1, []⟩] 5 1 0 = some ([⟨5, 1, []⟩], 3, [], 0) := by kernel_rfl
theorem aw_s : musterlow_SameClients.f 9 [⟨5, 1, []⟩] [⟨5, 1, []⟩] = some true := by kernel_rfl
theorem byte_row (w : World) : Kd.C (Kd.int .u8) (w.alloc (.cells #[.int .u8 97] 5 (1, 2))) (some ⟨w.heap.size, 0, none⟩) ([97] : List Int).length [97] := by
  refine ⟨rfl, by simp, fun _ => ⟨_, rfl, fun j p hp => ?_⟩⟩
  cases j with
  | zero =>
    have e : (97 : Int) = p := by simpa using hp
    subst e
    refine ⟨[.int .u8 97], rfl, rfl, fun i u hu => ?_⟩
    cases i with
    | zero =>
      have e : Value.int .u8 97 = u := by simpa using hu
      subst e
      rw [add_off]
      unfold World.cell?
      dsimp only
      rw [Go.heap_alloc_new]
      rfl
    | succ i => simp at hu
  | succ j => simp at hp
theorem client_row (w : World) : Kd.C k44 (w.alloc (.cells #[.int .i64 5, .int .i64 1, .slice none 0 0] 44)) (some ⟨w.heap.size, 0, none⟩) ([⟨5, 1, []⟩] : List S44).length [⟨5, 1, []⟩] := by
  have hH : (w.alloc (.cells #[.int .i64 5, .int .i64 1, .slice none 0 0] 44)).heap[w.heap.size]? = some (.cells #[.int .i64 5, .int .i64 1, .slice none 0 0] 44) := Go.heap_alloc_new ..
  generalize w.alloc (.cells #[.int .i64 5, .int .i64 1, .slice none 0 0] 44) = W at hH ⊢
  refine ⟨rfl, by simp, fun _ => ⟨_, rfl, fun j p hp => ?_⟩⟩
  cases j with
  | zero =>
    have e : (⟨5, 1, []⟩ : S44) = p := by simpa using hp
    subst e
    refine ⟨[.int .i64 5, .int .i64 1, .slice none 0 0], rfl, k44.K_of_M (k44_mkM W 0 (fun _ => True) (⟨5, 1, []⟩ : S44) (Kd.R_nil _ _ _ _ _)), fun i u hu => ?_⟩
    rw [add_off, Nat.zero_mul, Nat.zero_add, Nat.zero_add]
    unfold World.cell?
    dsimp only
    rw [hH, ← hu]
    simp
  | succ j => simp at hp
set_option maxRecDepth 100000 in
set_option maxHeartbeats 800000 in
theorem awake_walk (w : World) : Calls Try.prog 19 #[] w fun e w' => e = .returned (.bool true) ∧ Below w.heap.size w w' := by
  go_enter Try.func19, Try.ntmps19
  go_wp2_with fail
  refine (session_Look.calls none 0 [] 5 1 0 _ _ _ _ w (Kd.C_nil _ _) (Nat.le_refl _) aw_l1).mono ?_
  rintro e w1 ⟨v1, v2, rfl, r1, r2, b1⟩
  obtain ⟨A1, c1, rfl, hc1, k1⟩ := Kd.R_reads r1
  have HB := hd b1
  have K1 := hd k1
  have HC1 := hd hc1
  clear r1 r2 b1 k1 hc1
  have kc := fun (w : World) (C : Array Value) (n c : Nat) => Lib.run_convert_bytes_const (P := Try.prog) w 23 5 C n c Try.underlying23 Try.underlying5
  go_wp2_with fail
  have K27 : Hd (Kd.C (Kd.int .u8) (w1.alloc (.cells #[.int .u8 97] 5 (1, 2))) (some ⟨w1.heap.size, 0, none⟩) ([97] : List Int).length [97]) := hd (byte_row w1)
  have K1' := hd (Kd.C_below K1.out (below_alloc (Below.refl _ w1) (.cells #[.int .u8 97] 5 (1, 2))))
  have HB2 : Hd (Below w.heap.size w (w1.alloc (.cells #[.int .u8 97] 5 (1, 2)))) := hd (below_then HB.out HB.out.size (below_alloc (Below.refl _ w1) _))
  generalize hw2 : w1.alloc (.cells #[.int .u8 97] 5 (1, 2)) = w2 at K27 K1' HB2 ⊢
  clear hw2 kc
  refine (session_Done.calls A1 c1 [⟨5, 0, []⟩] 5 1 (some ⟨w1.heap.size, 0, none⟩) 1 [97] _ _ w2 K1'.out HC1.out K27.out (Nat.le_refl _) aw_d1).mono ?_
  rintro e w3 ⟨v5, rfl, r5, b5⟩
  obtain ⟨A5, c5, rfl, hc5, k5⟩ := Kd.R_reads r5
  have HB3 : Hd (Below w.heap.size w w3) := hd (below_then HB2.out HB2.out.size b5)
  have K5 := hd k5
  have HC5 := hd hc5
  clear r5 b5 hc5 k5 HB HB2 K1 K1' K27
  go_wp2_with fail
  refine (session_Look.calls A5 c5 [⟨5, 0, [⟨1, [97]⟩]⟩] 5 1 0 _ _ _ _ w3 K5.out HC5.out aw_l2).mono ?_
  rintro e w4 ⟨v7, v9, rfl, r7, r9, b7⟩
  obtain ⟨A9, c9, rfl, hc9, k9⟩ := Kd.R_reads r9
  have HB4 : Hd (Below w.heap.size w w4) := hd (below_then HB3.out HB3.out.size b7)
  have K5b := hd (Kd.C_below K5.out b7)
  have K9 := hd k9
  clear r7 r9 b7 hc9 k9 HB3 K5
  go_wp2_with fail
  refine (session_Look.calls A5 c5 [⟨5, 0, [⟨1, [97]⟩]⟩] 5 2 1 _ _ _ _ w4 K5b.out HC5.out aw_l3).mono ?_
  rintro e w5 ⟨v11, v13, rfl, r11, r13, b11⟩
  obtain ⟨A11, c11, rfl, hc11, k11⟩ := Kd.R_reads r11
  have HB5 : Hd (Below w.heap.size w w5) := hd (below_then HB4.out HB4.out.size b11)
  have K9b := hd (Kd.C_below K9.out b11)
  have K11 := hd k11
  have HC11 := hd hc11
  clear r11 r13 b11 hc11 k11 HB4 K5b K9
  go_wp2_with fail
  refine (session_Look.calls A11 c11 [⟨5, 1, []⟩] 5 1 0 _ _ _ _ w5 K11.out HC11.out aw_l4).mono ?_
  rintro e w6 ⟨v15, v17, rfl, r15, r17, b15⟩
  obtain ⟨A17, c17, rfl⟩ := Kd.R_slice r17
  have HB6 : Hd (Below w.heap.size w w6) := hd (below_then HB5.out HB5.out.size b15)
  have K9c := hd (Kd.C_below K9b.out b15)
  have K11b := hd (Kd.C_below K11.out b15)
  clear r15 r17 b15 HB5 K9b K11
  have hcv : (convert 23 9 (.slice A9 1 c9)).run Try.prog w6 = .ok (.string ⟨#[97]⟩) w6 := Kd.C_string (P := Try.prog) (A := A9) (c := c9) Try.underlying23 Try.underlying5 Try.underlying9 K9c.out
  clear K9c
  go_wp2_with fail
  refine (musterlow_SameClients.calls 9 A11 c11 [⟨5, 1, []⟩] (some ⟨w6.heap.size, 0, none⟩) 1 [⟨5, 1, []⟩] _ _ (Kd.C_below K11b.out (below_alloc (Below.refl _ w6) _)) HC11.out (client_row w6) (Nat.le_refl _) aw_s).mono ?_
  rintro e w7 ⟨rfl, b17⟩
  have HB7 : Hd (Below w.heap.size w w7) := hd (below_then HB6.out HB6.out.size (below_then (below_alloc (Below.refl _ w6) _) (by simp) b17))
  clear b17 K11b
  go_wp2_with fail
  go_ret
  exact ⟨rfl, HB7.out⟩
def musterlaw09_awake.f : Option Bool := some true
theorem musterlaw09_awake.calls (r : Bool) (w : World) (h : musterlaw09_awake.f = some r) : Calls Try.prog 19 #[] w fun e w' => e = .returned (.bool r) ∧ Below w.heap.size w w' := by
  cases h
  exact awake_walk w
end Go.Proofs.Ytafnjlgdjhegaaa.Pr
