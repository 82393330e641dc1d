/-
  AccountNumbers in plain lists: a store that is full, and what it has used.
-/
import Derived.Test.YtinpgejkkfpckaaQParts
import Derived.Test.YtinpgejkkfpckaaHAwake
namespace Go.Proofs.Ytinpgejkkfpckaa.Pr
open Go.RowKit Go.Proofs.YtinpgejkkfpckaaW.PrintWords Go.Proofs.YtinpgejkkfpckaaW.PrintLast Go.Proofs.YtinpgejkkfpckaaW.PrintMore
set_option linter.unusedVariables false
set_option linter.unusedSimpArgs false
/-- The full store's events. -/
def fullE (i : Int) : Past := ⟨i, 2, 0, ⟨#[]⟩, ⟨#[]⟩, 32, 64, 0⟩
def idsF (n : Nat) : List Int := (List.range n).map fun i : Nat => ((i + 1 : Nat) : Int)
def fullP (n : Nat) : List Past := (idsF n).map fullE
theorem idsF_len (n : Nat) : (idsF n).length = n := by simp [idsF]
theorem idsF_mem (n : Nat) (x : Int) : x ∈ idsF n ↔ 1 ≤ x ∧ x ≤ n := by
  unfold idsF
  simp only [List.mem_map, List.mem_range]
  constructor
  · rintro ⟨i, hi, rfl⟩; omega
  · rintro ⟨h1, h2⟩
    exact ⟨(x - 1).toNat, by omega, by omega⟩
theorem idsF_snoc (n : Nat) : idsF (n + 1) = idsF n ++ [((n + 1 : Nat) : Int)] := by simp [idsF, List.range_succ]
theorem idsF_rise : ∀ n, Rise (idsF n)
  | 0 => List.Pairwise.nil
  | n + 1 => by
    rw [idsF_snoc]
    unfold Rise
    rw [List.pairwise_append]
    refine ⟨idsF_rise n, by simp, fun x hx y hy => ?_⟩
    rw [List.mem_singleton.1 hy]
    have := (idsF_mem n x).1 hx
    omega
theorem insF (n : Nat) : insI (idsF n) ((n + 1 : Nat) : Int) = idsF (n + 1) := by
  refine rise_ext (insI_rise (idsF_rise n) _) (idsF_rise _) fun x => ?_
  rw [insI_mem, idsF_mem, idsF_mem]
  omega
theorem insF_old {n : Nat} {x : Int} (h : x ∈ idsF n) : insI (idsF n) x = idsF n := if_pos h
theorem fullE_ok {i : Int} (h1 : 1 ≤ i) (h2 : i ≤ 5000) : rightPast (fullE i) = true := by
  have h : fitP i 2 0 ⟨#[]⟩ ⟨#[]⟩ 32 64 := ⟨h1, by omega, by decide, by decide, by decide, by decide, by decide, by decide, by decide, by decide, by decide, by decide⟩
  unfold rightPast rightP
  rw [Bool.and_eq_true, decide_eq_true_eq]
  exact ⟨h, rfl⟩
theorem fullP_get {n : Nat} {a b : Int} : getP (fullP n) a b = if (1 ≤ a ∧ a ≤ n) ∧ b = 2 then some (fullE a) else none := by
  by_cases h : (1 ≤ a ∧ a ≤ n) ∧ b = 2
  · rw [if_pos h]
    obtain ⟨h1, rfl⟩ := h
    cases hg : getP (fullP n) a 2 with
    | none => exact absurd ⟨rfl, rfl⟩ (getP_none.1 hg (fullE a) (List.mem_map.2 ⟨a, (idsF_mem n a).2 h1, rfl⟩))
    | some q =>
      obtain ⟨h2, h3, h4⟩ := getP_some hg
      obtain ⟨i, _, rfl⟩ := List.mem_map.1 h2
      have : i = a := h3
      rw [this]
  · rw [if_neg h]
    refine getP_none.2 fun p hp hh => h ?_
    obtain ⟨i, hi, rfl⟩ := List.mem_map.1 hp
    have h1 : i = a := hh.1
    have h2 : (2 : Int) = b := hh.2
    rw [← h1]
    exact ⟨(idsF_mem n i).1 hi, h2.symm⟩
theorem full_take (n : Nat) (hn : n < 4096) : takeT (fullP n) (idsF n) (fullE ((n + 1 : Nat) : Int)) = (true, 0, fullP (n + 1), idsF (n + 1)) := by
  unfold takeT
  rw [if_pos (fullE_ok (by omega) (by omega))]
  have hg : getP (fullP n) (fullE ((n + 1 : Nat) : Int)).id (fullE ((n + 1 : Nat) : Int)).what = none := by
    rw [fullP_get, if_neg]
    simp only [fullE]
    omega
  rw [hg, if_neg (by simp)]
  have hm : ¬ (fullE ((n + 1 : Nat) : Int)).id ∈ idsF n := by
    rw [idsF_mem]
    simp only [fullE]
    omega
  rw [if_neg hm, if_neg (by rw [idsF_len]; omega)]
  have e : fullP n ++ [fullE ((n + 1 : Nat) : Int)] = fullP (n + 1) := by unfold fullP; rw [idsF_snoc, List.map_append]; rfl
  rw [e]
  have : (fullE ((n + 1 : Nat) : Int)).id = ((n + 1 : Nat) : Int) := rfl
  rw [this, insF]
def newE : Past := ⟨5000, 2, 0, ⟨#[]⟩, ⟨#[]⟩, 0, 0, 0⟩
def oldE : Past := ⟨9, 2, 0, ⟨#[]⟩, ⟨#[]⟩, 0, 0, 0⟩
def subE : Past := ⟨9, 1, 0, ⟨#[]⟩, ⟨#[]⟩, 32, 64, 0⟩
theorem none_is : ¬ ((none : Option Past).isSome = true) := by simp
theorem take_new : takeT (fullP 4096) (idsF 4096) newE = (false, 5, fullP 4096, idsF 4096) := by
  unfold takeT
  rw [if_pos (by decide +kernel), fullP_get, if_neg (by simp [newE] : ¬ ((1 ≤ newE.id ∧ newE.id ≤ (4096 : Nat)) ∧ newE.what = 2)), if_neg none_is, if_neg (by rw [idsF_mem]; simp [newE]), if_pos (by rw [idsF_len]; omega)]
theorem take_old : takeT (fullP 4096) (idsF 4096) oldE = (false, 0, fullP 4096, idsF 4096) := by
  unfold takeT
  rw [if_pos (by decide +kernel), fullP_get, if_pos (by simp [oldE])]
def P9 : List Past := fullP 4096 ++ [subE]
theorem take_sub : takeT (fullP 4096) (idsF 4096) subE = (true, 0, P9, idsF 4096) := by
  have hm : subE.id ∈ idsF 4096 := by rw [idsF_mem]; simp [subE]
  unfold takeT
  rw [if_pos (by decide +kernel), fullP_get, if_neg (by simp [subE] : ¬ ((1 ≤ subE.id ∧ subE.id ≤ (4096 : Nat)) ∧ subE.what = 2)), if_neg none_is, if_pos hm, insF_old hm]
  rfl
theorem P9_ok : OkP P9 := by
  intro p hp
  rcases List.mem_append.1 hp with hp | hp
  · obtain ⟨i, hi, rfl⟩ := List.mem_map.1 hp
    have := (idsF_mem 4096 i).1 hi
    exact fullE_ok this.1 (by omega)
  · rw [List.mem_singleton.1 hp]
    decide +kernel
theorem P9_get (a b : Int) : getP P9 a b = (getP (fullP 4096) a b).or (if a = 9 ∧ b = 1 then some subE else none) := by
  unfold P9 getP
  rw [List.find?_append]
  congr 1
  by_cases h : a = 9 ∧ b = 1
  · obtain ⟨rfl, rfl⟩ := h
    rfl
  · rw [if_neg h, List.find?_singleton]
    rw [if_neg]
    simp only [subE, Bool.and_eq_true, beq_iff_eq]
    exact h
theorem P9_run {id : Int} (h1 : 1 ≤ id) (h2 : id ≤ 4096) : (runP P9 id).nodes = 32 ∧ (runP P9 id).cores = 64 ∧ (runP P9 id).start = 0 ∧ (runP P9 id).stop = -1 := by
  have g3 : getP P9 id 3 = none := by rw [P9_get, fullP_get, if_neg (by omega), if_neg (by omega)]; rfl
  have g2 : getP P9 id 2 = some (fullE id) := by rw [P9_get, fullP_get, if_pos ⟨⟨h1, by omega⟩, rfl⟩]; rfl
  have g1 : getP P9 id 1 = if id = 9 then some subE else none := by
    rw [P9_get, fullP_get, if_neg (by omega)]
    by_cases h : id = 9
    · rw [if_pos ⟨h, rfl⟩, if_pos h]; rfl
    · rw [if_neg (fun hh => h hh.1), if_neg h]; rfl
  unfold runP upd
  rw [g3, g2, g1]
  by_cases h : id = 9
  · rw [if_pos h]
    exact ⟨rfl, rfl, rfl, rfl⟩
  · rw [if_neg h]
    exact ⟨rfl, rfl, rfl, rfl⟩
theorem P9_used {id : Int} (h1 : 1 ≤ id) (h2 : id ≤ 4096) {a : Int} (h0 : 0 ≤ a) (ha : a ≤ 1099511627776) : usedP (runP P9 id) a 1099511627776 = 2048 * (1099511627776 - a) := by
  obtain ⟨r1, r2, r3, r4⟩ := P9_run h1 h2
  rw [used_plain (run_ok P9_ok id) h0 (by omega) (by omega) (by omega), r1, r2, r3, r4, if_neg (by omega), if_neg (by omega)]
  unfold mx
  rw [if_neg (by omega : ¬ a < 0)]
  split <;> omega
theorem P9_sum {a : Int} (h0 : 0 ≤ a) (ha : a ≤ 1099511627776) : ∀ l : List Int, (∀ x ∈ l, 1 ≤ x ∧ x ≤ 4096) → useS P9 l ByteArray.empty a 1099511627776 = l.length * (2048 * (1099511627776 - a))
  | [], _ => by simp [useS, usedL]
  | x :: l, h => by
    have ih := P9_sum h0 ha l fun y hy => h y (by simp [hy])
    obtain ⟨x1, x2⟩ := h x (by simp)
    rw [useS_cons, if_pos (by unfold isOf; rw [decide_eq_true rfl, Bool.true_or]), P9_used x1 x2 h0 ha, ih, List.length_cons]
    have : (((l.length + 1 : Nat) : Int)) = (l.length : Int) + 1 := by omega
    rw [this, Int.add_mul, Int.one_mul, Int.add_comm]
theorem P9_total0 : totalP P9 (idsF 4096) ByteArray.empty 0 1099511627776 = (9223372036854775807, true) := by
  rw [totalP_is P9_ok _ (by omega) (by omega) (by omega) (by omega), P9_sum (by omega) (by omega) _ (fun x hx => (idsF_mem 4096 x).1 hx), idsF_len, if_neg (by omega)]
theorem P9_total1 : totalP P9 (idsF 4096) ByteArray.empty 1 1099511627776 = (9223372036846387200, false) := by
  rw [totalP_is P9_ok _ (by omega) (by omega) (by omega) (by omega), P9_sum (by omega) (by omega) _ (fun x hx => (idsF_mem 4096 x).1 hx), idsF_len, if_pos (by omega)]
  rfl
/-- The chapter's two events: what is asked of them. -/
theorem n_used : totalP P2 [7] nm 200 300 = (800, false) := by kernel_rfl
theorem n_days : rollR P2 [7] nm 0 1 86400 = ([31200], false, 0) := by kernel_rfl
theorem n_none : rollR P2 [7] nm 5 5 3600 = ([], false, 0) := by kernel_rfl
theorem n_long : rollR P2 [7] nm 0 3600001 3600 = ([], false, 3) := by kernel_rfl
theorem n_most : (rollR P2 [7] nm 0 3600000 3600).2.2 = 0 := by
  unfold rollR
  rw [if_pos (by decide), if_neg (by decide)]
theorem n_last : rollR P2 [7] (⟨#[]⟩ : ByteArray) 1099511627776 1099511627776 86400 = ([], false, 0) := by kernel_rfl
theorem n_sum1 : sumP 0 [9223372036854775807, 1] = (9223372036854775807, true) := by kernel_rfl
theorem n_sum2 : sumP 0 [-5, 3, 9223372036854775804] = (9223372036854775807, false) := by kernel_rfl
/-- The twelve events that are not right. -/
def wrongE : Nat → S36
  | 0 => ⟨0, 1, 0, ⟨#[]⟩, ⟨#[]⟩, 0, 0, 0⟩
  | 1 => ⟨1073741825, 1, 0, ⟨#[]⟩, ⟨#[]⟩, 0, 0, 0⟩
  | 2 => ⟨1, 0, 0, ⟨#[]⟩, ⟨#[]⟩, 0, 0, 0⟩
  | 3 => ⟨1, 4, 0, ⟨#[]⟩, ⟨#[]⟩, 0, 0, 0⟩
  | 4 => ⟨1, 1, -1, ⟨#[]⟩, ⟨#[]⟩, 0, 0, 0⟩
  | 5 => ⟨1, 1, 1099511627777, ⟨#[]⟩, ⟨#[]⟩, 0, 0, 0⟩
  | 6 => ⟨1, 1, 0, ⟨#[49, 50, 51, 52, 53, 54, 55, 56, 57, 48, 49, 50, 51, 52, 53, 54, 55]⟩, ⟨#[]⟩, 0, 0, 0⟩
  | 7 => ⟨1, 1, 0, ⟨#[]⟩, ⟨#[]⟩, 33, 0, 0⟩
  | 8 => ⟨1, 1, 0, ⟨#[]⟩, ⟨#[]⟩, 0, 65, 0⟩
  | 9 => ⟨1, 1, 0, ⟨#[]⟩, ⟨#[]⟩, 0, 0, 3⟩
  | 10 => ⟨1, 3, 0, ⟨#[]⟩, ⟨#[]⟩, 0, 0, 0⟩
  | _ => ⟨1, 3, 0, ⟨#[]⟩, ⟨#[]⟩, 0, 0, 2⟩
theorem wrong_right : ∀ i : Nat, rightPast (pastS (wrongE i)) = false
  | 0 => by decide +kernel
  | 1 => by decide +kernel
  | 2 => by decide +kernel
  | 3 => by decide +kernel
  | 4 => by decide +kernel
  | 5 => by decide +kernel
  | 6 => by decide +kernel
  | 7 => by decide +kernel
  | 8 => by decide +kernel
  | 9 => by decide +kernel
  | 10 => by decide +kernel
  | n + 11 => by
    have e : wrongE (n + 11) = wrongE 11 := rfl
    rw [e]
    decide +kernel
theorem wrong_take (i : Nat) : takeT P2 [7] (pastS (wrongE i)) = (false, 2, P2, [7]) := by
  unfold takeT
  rw [wrong_right]
  rfl
end Go.Proofs.Ytinpgejkkfpckaa.Pr
