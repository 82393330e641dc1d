/-
  math/bits.TrailingZeros32: how many noughts a number ends in.
-/
import Derived.Test.YthlbdbaanlehhaaDoorHTab
namespace Go.Proofs.YthlbdbaanlehhaaDoor.Pr
open Go.RowKit Go.Proofs.YthlbdbaanlehhaaDoorW.PrintWords Go.Proofs.YthlbdbaanlehhaaDoorW.PrintLast Go.Proofs.YthlbdbaanlehhaaDoorW.PrintMore Go.Proofs.YthlbdbaanlehhaaDoorG Go.Proofs.YthlbdbaanlehhaaDoor
set_option linter.unusedVariables false
set_option linter.unusedSimpArgs false
def tzN : Nat → Nat → Nat
  | 0, _ => 0
  | f + 1, x => if x % 2 = 1 then 0 else tzN f (x / 2) + 1
theorem and_halves (a b : Nat) : a &&& b = 2 * (a / 2 &&& b / 2) + (a % 2 &&& b % 2) := by
  have h1 := Nat.and_div_two (a := a) (b := b)
  have h2 := Nat.and_mod_two_pow (a := a) (b := b) (n := 1)
  simp only [Nat.pow_one] at h2
  omega
theorem and_rest (q f : Nat) (h : q < 2 ^ f) : q &&& (2 ^ f - (q + 1)) = 0 := by
  apply Nat.eq_of_testBit_eq
  intro i
  rw [Nat.testBit_and, Nat.testBit_two_pow_sub_succ h]
  cases q.testBit i <;> simp
theorem low_bit : ∀ (f x : Nat), x < 2 ^ f → 0 < x → x &&& (2 ^ f - x) = 2 ^ tzN f x ∧ tzN f x < f
  | 0, x, h, h0 => by simp at h; omega
  | f + 1, x, h, h0 => by
    have hp : 2 ^ (f + 1) = 2 * 2 ^ f := by rw [Nat.pow_succ]; omega
    rw [hp] at h ⊢
    have hpos : 0 < 2 ^ f := Nat.two_pow_pos f
    rw [and_halves]
    unfold tzN
    by_cases ho : x % 2 = 1
    · rw [if_pos ho]
      have e1 : (2 * 2 ^ f - x) / 2 = 2 ^ f - (x / 2 + 1) := by omega
      have e2 : (2 * 2 ^ f - x) % 2 = 1 := by omega
      rw [e1, e2, and_rest (x / 2) f (by omega), ho]
      exact ⟨by decide, by omega⟩
    · rw [if_neg ho]
      obtain ⟨i1, i2⟩ := low_bit f (x / 2) (by omega) (by omega)
      have e1 : (2 * 2 ^ f - x) / 2 = 2 ^ f - x / 2 := by omega
      have e2 : (2 * 2 ^ f - x) % 2 = 0 := by omega
      have e3 : x % 2 = 0 := by omega
      rw [e1, e2, e3, i1]
      refine ⟨?_, by omega⟩
      rw [Nat.pow_succ]
      simp
      omega
theorem tz_tab : ∀ t : Nat, t < 32 → (2 ^ t * 125613361 % 4294967296) / 134217728 < 32 ∧ tab32.getD ((2 ^ t * 125613361 % 4294967296) / 134217728) 0 = (t : Int) := by decide
theorem tz_zero : tzN 32 0 = 32 := by decide
def math_bits_TrailingZeros32.f (x : Int) : Option Int := if (decide (0 ≤ x) && decide (x < 4294967296)) = true then some (tzN 32 x.toNat : Nat) else none
theorem and_neg (x : Nat) (h : x < 4294967296) (h0 : 0 < x) : bits .and .u32 (x : Int) (IntKind.u32.wrap (-(x : Int))) = ((2 ^ tzN 32 x : Nat) : Int) := by
  have e : IntKind.u32.wrap (-(x : Int)) = ((2 ^ 32 - x : Nat) : Int) := by
    rw [IntKind.wrap_u32]
    omega
  rw [e, (bits_nat .u32 32 (by decide) (fun n h1 h2 => by rw [IntKind.wrap_u32]; omega) x (2 ^ 32 - x) (by omega) (by omega)).1, (low_bit 32 x (by omega) h0).1]
theorem glob0 : Tryd.prog.globalNamed "math/bits.deBruijn32tab" = some 0 := by kernel_rfl
/-- All that is reckoned of a number that is none. -/
theorem tz_facts (x : Nat) (hx : x < 4294967296) (h0 : 0 < x) (w : World) (tab_ : Tabs w) : ∃ p j : Nat, bits .and .u32 (x : Int) (-(x : Int) % 4294967296) = (p : Int) ∧ (p : Int) * 125613361 % 4294967296 / 134217728 = (j : Int) ∧ j < 32 ∧ w.cell? ⟨0, j, none⟩ = some (.int .u8 (tzN 32 x : Nat)) ∧ tzN 32 x < 32 := by
  have hl := (low_bit 32 x (by omega) h0).2
  have hA := and_neg x hx h0
  rw [IntKind.wrap_u32] at hA
  obtain ⟨h1, h2⟩ := tz_tab _ hl
  have hc := (tab_.2).cell (g := 0) glob0 _ (show (2 ^ tzN 32 x * 125613361 % 4294967296) / 134217728 < tab32.length from h1)
  rw [h2] at hc
  generalize tzN 32 x = t at hA hc h1 hl ⊢
  refine ⟨2 ^ t, (2 ^ t * 125613361 % 4294967296) / 134217728, hA, ?_, h1, hc, hl⟩
  generalize 2 ^ t = p
  omega
set_option maxRecDepth 100000 in
set_option maxHeartbeats 2000000 in
theorem tz_walk (x : Nat) (t p j : Nat) (hx : (x : Int) < 4294967296) (h0 : x ≠ 0) (w : World) (hA : bits .and .u32 (x : Int) (-(x : Int) % 4294967296) = (p : Int)) (hJ : (p : Int) * 125613361 % 4294967296 / 134217728 = (j : Int)) (hj : j < 32)
    (hc : w.cell? ⟨0, j, none⟩ = some (.int .u8 (t : Int))) (ht : t < 32) : Calls Tryd.prog 42 #[.int .u32 (x : Int)] w fun e w' => e = .returned (.int .i64 (t : Int)) ∧ Below w.heap.size w w' := by
  have hne : ((x : Int) == 0) = false := by simpa using h0
  have hj32 : (j : Int) < 32 := by omega
  have ht32 : (t : Int) < 32 := by omega
  have ht0 : (0 : Int) ≤ (t : Int) := by omega
  go_enter Tryd.func42, Tryd.ntmps42
  go_wp2
  go_ret
  exact ⟨rfl, Below.refl _ _⟩
theorem tz_nought (w : World) : Calls Tryd.prog 42 #[.int .u32 0] w fun e w' => e = .returned (.int .i64 32) ∧ Below w.heap.size w w' := by
  go_enter Tryd.func42, Tryd.ntmps42
  go_wp2
  go_ret
  exact ⟨rfl, Below.refl _ _⟩
theorem tz_any (x : Nat) (hx : x < 4294967296) (w : World) (tab_ : Tabs w) : Calls Tryd.prog 42 #[.int .u32 (x : Int)] w fun e w' => e = .returned (.int .i64 (tzN 32 x : Nat)) ∧ Below w.heap.size w w' := by
  by_cases h0 : x = 0
  · subst h0
    exact tz_nought w
  · obtain ⟨p, j, h1, h2, h3, h4, h5⟩ := tz_facts x hx (by omega) w tab_
    exact tz_walk x _ p j (by omega) h0 w h1 h2 h3 h4 h5
theorem math_bits_TrailingZeros32.calls (a0 r : Int) (w : World) (tab_ : Tabs w) (h : math_bits_TrailingZeros32.f a0 = some r) : Calls Tryd.prog 42 #[.int .u32 a0] w fun e w' => e = .returned (.int .i64 r) ∧ Below w.heap.size w w' := by
  unfold math_bits_TrailingZeros32.f at h
  by_cases hc : (decide (0 ≤ a0) && decide (a0 < 4294967296)) = true
  · rw [if_pos hc] at h
    cases h
    simp only [Bool.and_eq_true, decide_eq_true_eq] at hc
    have := tz_any a0.toNat (by omega) w tab_
    rwa [show ((a0.toNat : Nat) : Int) = a0 by omega] at this
  · rw [if_neg hc] at h
    cases h
end Go.Proofs.YthlbdbaanlehhaaDoor.Pr
