/-
  steps.place, proved by hand: on cuts whose times rise it tells the place of the cut that holds at a time.
-/
import Derived.Test.YteipoopdnimiaaaPr0
import Derived.WalkSpells
import Derived.WalkLawsBesides
namespace Go.Proofs.Yteipoopdnimiaaa.Pr
open Go.RowKit Go.Proofs.YteipoopdnimiaaaW.PrintWords Go.Proofs.YteipoopdnimiaaaW.PrintLast Go.Proofs.YteipoopdnimiaaaW.PrintMore
set_option linter.unusedVariables false
set_option linter.unusedSimpArgs false
/-- Do the times of the cuts rise? -/
def rising : List S34 → Bool
  | a :: b :: l => decide (a.f0 < b.f0) && rising (b :: l)
  | _ => true
/-- How many cuts are at or ahead of t. -/
def upTo (l : List S34) (t : Int) : Nat := (l.takeWhile fun c => decide (c.f0 ≤ t)).length
def steps_place.f (l0 : List S34) (a1 : Int) : Option Int := if rising l0 = true then some ((upTo l0 a1 : Int) - 1) else none

theorem rising_cons {a : S34} {l : List S34} (h : rising (a :: l) = true) : rising l = true := by
  cases l with
  | nil => rfl
  | cons b l => simp only [rising, Bool.and_eq_true] at h; exact h.2
theorem rising_lt {l : List S34} (h : rising l = true) : ∀ i j : Nat, i < j → j < l.length → (l.getD i z34).f0 < (l.getD j z34).f0 := by
  induction l with
  | nil => intro i j _ hj; simp at hj
  | cons a l ih =>
    intro i j hij hj
    have ih' := ih (rising_cons h)
    cases j with
    | zero => omega
    | succ j =>
      have hj' : j < l.length := by simpa using hj
      cases i with
      | succ i => simpa using ih' i j (by omega) hj'
      | zero =>
        cases l with
        | nil => simp at hj'
        | cons b l =>
          simp only [rising, Bool.and_eq_true, decide_eq_true_eq] at h
          cases j with
          | zero => simpa using h.1
          | succ j =>
            have := ih' 0 (j + 1) (by omega) hj'
            simp at this ⊢
            have h1 := h.1
            omega
theorem upTo_of {l : List S34} (t : Int) (r : Nat) (hr : r ≤ l.length) (h1 : ∀ i, i < r → (l.getD i z34).f0 ≤ t) (h2 : ∀ i, r ≤ i → i < l.length → t < (l.getD i z34).f0) : upTo l t = r := by
  induction l generalizing r with
  | nil => simp at hr; subst hr; rfl
  | cons a l ih =>
    unfold upTo
    cases r with
    | zero =>
      have := h2 0 (by omega) (by simp)
      simp at this
      rw [List.takeWhile_cons_of_neg (by simpa using this)]
      rfl
    | succ r =>
      have h0 := h1 0 (by omega)
      simp at h0
      rw [List.takeWhile_cons_of_pos (by simpa using h0)]
      have := ih r (by simpa using hr) (fun i hi => by simpa using h1 (i + 1) (by omega)) (fun i hi hn => by simpa using h2 (i + 1) (by omega) (by simpa using hn))
      unfold upTo at this
      simp [this]

theorem mid_wrap (a b : Nat) (h : a < 9223372036854775808) (h' : b < 9223372036854775808) : wrap64 (IntKind.u64.wrap (wrap64 ((a : Int) + b)) / 2) = ((a + b) / 2 : Nat) := by
  simp [wrap64, IntKind.wrap, IntKind.bits, IntKind.signed]
  omega
set_option maxHeartbeats 400000 in
theorem search_any (P : Nat → Bool) (pb pt : Addr) (n : Nat) (w : World) (hn : n ≤ 9223372036854775807)
   (hmono : ∀ i j, i ≤ j → j < n → P i = true → P j = true)
   (hp : ∀ i : Nat, i < n → ∀ q, Calls Try.prog 33 #[.int .i64 i, .pointer (some pb), .pointer (some pt)] (w.drewN q) fun e w' => e = .returned (.bool (P i)) ∧ ∃ n, w' = w.drewN n) :
    Calls Try.prog 32 #[.int .i64 n, .func (.func 33) #[] #[.pointer (some pb), .pointer (some pt)]] w fun e w' => (∃ r : Nat, e = .returned (.int .i64 r) ∧ r ≤ n ∧ (∀ i, i < r → P i = false) ∧ (∀ i, r ≤ i → i < n → P i = true)) ∧ ∃ n, w' = w.drewN n := by
  go_enter Try.func32, Try.ntmps32
  have HM := Aside0.mk hmono
  clear hmono
  have HP := Aside0.mk hp
  clear hp
  go_wp2
  go_loopw [5, 6] (fun i j wr => ∃ a b q : Nat, a ≤ b ∧ b ≤ n ∧ i = .int .i64 a ∧ j = .int .i64 b ∧ Aside0 (∀ i, i < a → P i = false) ∧ Aside0 (∀ i, b ≤ i → i < n → P i = true) ∧ wr = w.drewN q) (fun i j _ => (intOf j).toNat - (intOf i).toNat)
  case atStart => exact ⟨0, n, 0, by omega, by omega, rfl, rfl, ⟨fun i hi => by omega⟩, ⟨fun i h1 h2 => by omega⟩, rfl⟩
  case round =>
    obtain ⟨a, b, q, h1, h2, rfl, rfl, H1, H2, rfl⟩ := hrel
    by_cases hlt : a < b
    · go_wp2_with fail
      rw [mid_wrap a b (by omega) (by omega)]
      refine (HP.out ((a + b) / 2) (by omega) q).mono ?_
      rintro e w' ⟨rfl, q', rfl⟩
      have hm1 : (a + b) / 2 < b := by omega
      have hm2 : a ≤ (a + b) / 2 := by omega
      generalize (a + b) / 2 = m at *
      generalize hpm : P m = pm
      have HPM := Aside0.mk hpm
      clear hpm
      cases pm
      · go_wp2
        go_roundw
        case rel => exact ⟨m + 1, b, q', by omega, by omega, by go_num, rfl, ⟨fun i hi => by
          by_cases hi' : P i = true
          · have := HM.out i m (by omega) (by omega) hi'
            rw [HPM.out] at this
            cases this
          · simpa using hi'⟩, H2, rfl⟩
        case measure => simp [intOf]; omega
      · go_wp2
        go_roundw
        case rel => exact ⟨a, m, q', by omega, by omega, rfl, rfl, H1, ⟨fun i hi hn => HM.out m i hi hn HPM.out⟩, rfl⟩
        case measure => simp [intOf]; omega
    · go_wp2
      go_ret
      exact ⟨⟨a, rfl, by omega, H1.out, fun i hi hn => H2.out i (by omega) hn⟩, q, rfl⟩

set_option maxHeartbeats 400000 in
theorem pred_any (i t : Int) (ps pt : Addr) (ad : Addr) (n c : Nat) (x : Int) (w : World) (hs : w.cell? ps = some (.slice (some ad) n c)) (ht : w.cell? pt = some (.int .i64 t))
   (h0 : 0 ≤ i) (h1 : i < n) (hx : w.cell? (ad.add (i.toNat * 2)) = some (.int .i64 x)) :
    Calls Try.prog 33 #[.int .i64 i, .pointer (some ps), .pointer (some pt)] w fun e w' => e = .returned (.bool (decide (t < x))) ∧ ∃ n, w' = w.drewN n := by
  go_enter Try.func33, Try.ntmps33
  go_wp2
  go_quiet (fail)
  go_wp2
  go_ret
  exact ⟨rfl, _, rfl⟩

set_option maxHeartbeats 400000 in
theorem place_any (A0 : Option Addr) (c0 : Nat) (l0 : List (S34)) (t : Int) (w : World) (hr0 : Kd.C k34 w A0 l0.length l0) (hc0 : l0.length ≤ c0) (hri : rising l0 = true) :
    Calls Try.prog 22 #[.slice A0 l0.length c0, .int .i64 t] w fun e w' => e = .returned (.int .i64 ((upTo l0 t : Int) - 1)) ∧ Below w.heap.size w w' := by
  have hlen : l0.length ≤ 9223372036854775807 := hr0.2.1
  have HR := Aside0.mk hr0
  clear hr0
  have HI := Aside0.mk hri
  clear hri
  go_enter Try.func22, Try.ntmps22
  go_wp2_with fail
  refine (search_any (fun i => decide (t < (rd_T34 l0 i).f0)) _ _ l0.length _ hlen ?mono ?pred).mono ?_
  case mono =>
    intro i j hij hj h
    simp only [decide_eq_true_eq] at h ⊢
    rcases Nat.lt_or_eq_of_le hij with hlt | rfl
    · have := rising_lt HI.out i j hlt hj
      unfold rd_T34 at h ⊢
      simp only [Int.toNat_natCast] at h ⊢
      omega
    · exact h
  case pred =>
    intro i hi q
    have hW : Kd.C k34 (((w.alloc (.cells #[.slice A0 l0.length c0] 22)).alloc (.cells #[.int .i64 t] 2)).drewN q) A0 l0.length l0 := Kd.C_drewN (Kd.C_alloc (Kd.C_alloc HR.out _) _) _
    obtain ⟨ad, rfl, h1, _⟩ := at_T34 hW i (by omega) (by omega)
    refine (pred_any i t _ _ ad l0.length c0 (rd_T34 l0 i).f0 _ ?_ ?_ (by omega) (by omega) h1).mono ?_
    · go_simp
    · go_simp
    · rintro e w' ⟨he, n, hw⟩
      exact ⟨he, q + n, by rw [hw, World.drewN_drewN]⟩
  rintro e w' ⟨⟨r, rfl, hr, hlo, hhi⟩, q, rfl⟩
  have HR1 := Aside0.mk (upTo_of t r hr (fun i hi => by have := hlo i hi; unfold rd_T34 at this; simpa using this) (fun i hi hn => by have := hhi i hi hn; unfold rd_T34 at this; simpa using this))
  clear hlo hhi
  go_wp2
  go_ret
  rw [HR1.out]
  exact ⟨rfl, pw_below_drewN (below_alloc (below_alloc (Below.refl _ _) _) _) _⟩
theorem steps_place.calls (A0 : Option Addr) (c0 : Nat) (l0 : List (S34)) (a1 : Int) (r : Int) (w : World) (hr0 : Kd.C k34 w A0 l0.length l0) (hc0 : l0.length ≤ c0) (h : steps_place.f l0 a1 = some r) :
    Calls Try.prog 22 #[.slice A0 l0.length c0, .int .i64 a1] w fun e w' => e = .returned (.int .i64 r) ∧ Below w.heap.size w w' := by
  unfold steps_place.f at h
  by_cases hri : rising l0 = true
  · rw [if_pos hri] at h
    cases h
    exact place_any A0 c0 l0 a1 w hr0 hc0 hri
  · rw [if_neg hri] at h
    cases h
end Go.Proofs.Yteipoopdnimiaaa.Pr
