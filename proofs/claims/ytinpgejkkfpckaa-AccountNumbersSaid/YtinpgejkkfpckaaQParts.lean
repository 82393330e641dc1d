/-
  AccountParts in plain lists: what is used adds up over time, hours to days, and accounts.
-/
import Derived.Test.YtinpgejkkfpckaaQRun
import Derived.Test.YtinpgejkkfpckaaQKnown
namespace Go.Proofs.Ytinpgejkkfpckaa.Pr
open Go.RowKit Go.Proofs.YtinpgejkkfpckaaW.PrintWords Go.Proofs.YtinpgejkkfpckaaW.PrintLast Go.Proofs.YtinpgejkkfpckaaW.PrintMore
set_option linter.unusedVariables false
set_option linter.unusedSimpArgs false
theorem usedP_split {r : RunT} (ho : RunOk r) {a m b : Int} (h0 : 0 ≤ a) (h1 : a ≤ m) (h2 : m ≤ b) (h3 : b ≤ 2199023255552) : usedP r a m + usedP r m b = usedP r a b := by
  rw [used_plain ho h0 (by omega) (by omega) (by omega), used_plain ho (by omega) (by omega) (by omega) (by omega), used_plain ho h0 (by omega) (by omega) (by omega)]
  by_cases hs : r.start < 0
  · rw [if_pos hs, if_pos hs, if_pos hs]; rfl
  · rw [if_neg hs, if_neg hs, if_neg hs, ← Int.mul_add]
    congr 1
    unfold mx mn
    repeat' split
    all_goals omega
theorem usedP_nn {r : RunT} (ho : RunOk r) {a b : Int} (h0 : 0 ≤ a) (h1 : a ≤ 2199023255552) (h2 : 0 ≤ b) (h3 : b ≤ 2199023255552) : 0 ≤ usedP r a b := by
  rw [used_plain ho h0 h1 h2 h3]
  split
  · omega
  · exact Int.mul_nonneg (prod_ok ho).1 (by unfold mx; split <;> omega)
/-- What the runs of an account used, in all. -/
def useS (P : List Past) (ids : List Int) (acc : ByteArray) (a b : Int) : Int := (usedL P acc a b ids).sum
theorem useS_cons (P : List Past) (id : Int) (ids : List Int) (acc : ByteArray) (a b : Int) : useS P (id :: ids) acc a b = (if isOf P acc id = true then usedP (runP P id) a b else 0) + useS P ids acc a b := by
  unfold useS usedL
  rw [List.filter_cons]
  split
  · simp
  · simp
theorem useS_split {P : List Past} (ho : OkP P) (acc : ByteArray) {a m b : Int} (h0 : 0 ≤ a) (h1 : a ≤ m) (h2 : m ≤ b) (h3 : b ≤ 2199023255552) : ∀ ids, useS P ids acc a m + useS P ids acc m b = useS P ids acc a b
  | [] => rfl
  | id :: ids => by
    have ih := useS_split ho acc h0 h1 h2 h3 ids
    have hp := usedP_split (run_ok ho id) h0 h1 h2 h3
    rw [useS_cons, useS_cons, useS_cons]
    split <;> omega
theorem usedL_nn {P : List Past} (ho : OkP P) (acc : ByteArray) {a b : Int} (h0 : 0 ≤ a) (h1 : a ≤ 2199023255552) (h2 : 0 ≤ b) (h3 : b ≤ 2199023255552) (ids : List Int) : ∀ x ∈ usedL P acc a b ids, 0 ≤ x := by
  intro x hx
  unfold usedL at hx
  obtain ⟨id, _, rfl⟩ := List.mem_map.1 hx
  exact usedP_nn (run_ok ho id) h0 h1 h2 h3
theorem sum_nn : ∀ (l : List Int), (∀ x ∈ l, 0 ≤ x) → 0 ≤ l.sum
  | [], _ => by simp
  | x :: l, h => by
    have h1 := sum_nn l fun y hy => h y (by simp [hy])
    have h2 := h x (by simp)
    rw [List.sum_cons]
    omega
theorem sumP_sum : ∀ (l : List Int) (n : Int), (∀ x ∈ l, 0 ≤ x) → 0 ≤ n → n ≤ 9223372036854775807 → sumP n l = if n + l.sum ≤ 9223372036854775807 then (n + l.sum, false) else (9223372036854775807, true)
  | [], n, _, h1, h2 => by simp [sumP]; omega
  | x :: l, n, h, h1, h2 => by
    have hx := h x (by simp)
    have hl : ∀ y ∈ l, 0 ≤ y := fun y hy => h y (by simp [hy])
    have hs := sum_nn l hl
    have e : (if 0 < x then x else 0) = x := by split <;> omega
    unfold sumP
    rw [e, List.sum_cons]
    by_cases c : 9223372036854775807 < n + x
    · rw [if_pos c, if_neg (by omega)]
    · rw [if_neg c, sumP_sum l (n + x) hl (by omega) (by omega), Int.add_assoc]
theorem totalP_is {P : List Past} (ho : OkP P) (acc : ByteArray) {a b : Int} (h0 : 0 ≤ a) (h1 : a ≤ 2199023255552) (h2 : 0 ≤ b) (h3 : b ≤ 2199023255552) (ids : List Int) :
    totalP P ids acc a b = if useS P ids acc a b ≤ 9223372036854775807 then (useS P ids acc a b, false) else (9223372036854775807, true) := by
  unfold totalP
  rw [sumP_sum _ 0 (usedL_nn ho acc h0 h1 h2 h3 ids) (by omega) (by omega), Int.zero_add]
  rfl
theorem totalP_exact {P : List Past} (ho : OkP P) (acc : ByteArray) {a b : Int} (h0 : 0 ≤ a) (h1 : a ≤ 2199023255552) (h2 : 0 ≤ b) (h3 : b ≤ 2199023255552) (ids : List Int) (h : (totalP P ids acc a b).2 = false) : (totalP P ids acc a b).1 = useS P ids acc a b ∧ useS P ids acc a b ≤ 9223372036854775807 := by
  rw [totalP_is ho acc h0 h1 h2 h3] at h ⊢
  split at h
  · rename_i hh
    rw [if_pos hh]
    exact ⟨rfl, hh⟩
  · cases h
/-- Two spans of time that meet. -/
theorem parts_time {P : List Past} (ho : OkP P) (acc : ByteArray) {a m b : Int} (h0 : 0 ≤ a) (h1 : a ≤ m) (h2 : m ≤ b) (h3 : b ≤ 2199023255552) (ids : List Int) (e1 : (totalP P ids acc a m).2 = false) (e2 : (totalP P ids acc m b).2 = false) (e3 : (totalP P ids acc a b).2 = false) :
    wrap64 ((totalP P ids acc a m).1 + (totalP P ids acc m b).1) = (totalP P ids acc a b).1 := by
  obtain ⟨f1, g1⟩ := totalP_exact ho acc h0 (by omega) (by omega) (by omega) ids e1
  obtain ⟨f2, g2⟩ := totalP_exact ho acc (by omega) (by omega) (by omega) (by omega) ids e2
  obtain ⟨f3, g3⟩ := totalP_exact ho acc h0 (by omega) (by omega) (by omega) ids e3
  have hn := sum_nn _ (usedL_nn ho acc (a := a) (b := b) h0 (by omega) (by omega) (by omega) ids)
  rw [f1, f2, f3, useS_split ho acc h0 h1 h2 h3 ids]
  exact w64 ⟨by unfold useS; omega, by unfold useS at g3 ⊢; omega⟩
/-- Spans one behind the other. -/
theorem roll_sum {P : List Past} (ho : OkP P) (acc : ByteArray) (ids : List Int) (span first : Int) (hs : 0 < span) (hf : 0 ≤ first) : ∀ n : Nat, span * (first + n) ≤ 2199023255552 → (rollL (totalP P ids acc) span first n).2 = false →
    (rollL (totalP P ids acc) span first n).1.sum = useS P ids acc (span * first) (span * (first + n)) ∧ ∀ x ∈ (rollL (totalP P ids acc) span first n).1, 0 ≤ x
  | 0, hb, _ => by
    refine ⟨?_, by simp [rollL]⟩
    have h0 : 0 ≤ span * first := Int.mul_nonneg (by omega) hf
    have hb' : span * first ≤ 2199023255552 := by simpa using hb
    have e : span * (first + (0 : Nat)) = span * first := by simp
    rw [e]
    have hh := useS_split ho acc (a := span * first) (m := span * first) (b := span * first) h0 (Int.le_refl _) (Int.le_refl _) hb' ids
    simp only [rollL, List.sum_nil]
    omega
  | n + 1, hb, h => by
    have hc : span * (first + ((n + 1 : Nat) : Int)) = span * (first + n) + span := by
      have : first + ((n + 1 : Nat) : Int) = (first + n) + 1 := by omega
      rw [this, Int.mul_add, Int.mul_one]
    have hc' : span * (first + n + 1) = span * (first + n) + span := by rw [Int.mul_add, Int.mul_one]
    have h0 : 0 ≤ span * first := Int.mul_nonneg (by omega) hf
    have hn : span * first ≤ span * (first + n) := Int.mul_le_mul_of_nonneg_left (by omega) (by omega)
    simp only [rollL, Bool.or_eq_false_iff] at h
    obtain ⟨i1, i2⟩ := roll_sum ho acc ids span first hs hf n (by omega) h.1
    rw [hc'] at h
    obtain ⟨f1, g1⟩ := totalP_exact ho acc (by omega) (by omega) (by omega) (by omega) ids h.2
    have hp := useS_split ho acc (a := span * first) (m := span * (first + n)) (b := span * (first + n) + span) h0 hn (by omega) (by omega) ids
    have hnn := sum_nn _ (usedL_nn ho acc (a := span * (first + n)) (b := span * (first + n) + span) (by omega) (by omega) (by omega) (by omega) ids)
    simp only [rollL, List.sum_append, List.sum_cons, List.sum_nil, hc, hc', f1, i1]
    refine ⟨by omega, fun x hx => ?_⟩
    rcases List.mem_append.1 hx with hx | hx
    · exact i2 x hx
    · rw [List.mem_singleton.1 hx]; exact hnn
theorem sum_exact {g : List Int} {U : Int} (r1 : g.sum = U) (r2 : ∀ x ∈ g, 0 ≤ x) (e3 : (sumP 0 g).2 = false) : (sumP 0 g).1 = U := by
  rw [sumP_sum _ 0 r2 (by omega) (by omega)] at e3 ⊢
  split at e3
  · rename_i hh
    rw [if_pos hh, Int.zero_add]
    exact r1
  · cases e3
/-- A day and its hours. -/
theorem parts_day {P : List Past} (ho : OkP P) (acc : ByteArray) (ids : List Int) (d : Int) (h0 : 0 ≤ d) (h1 : d < 12000000) :
    ∃ t1 t2 g g2, rollR P ids acc (86400 * d) (86400 * d + 86400) 86400 = ([t1], t2, 0) ∧ rollR P ids acc (86400 * d) (86400 * d + 86400) 3600 = (g, g2, 0) ∧ g.length = 24 ∧ (t2 = false → g2 = false → (sumP 0 g).2 = false → (sumP 0 g).1 = t1) := by
  have w0 : wrongP (86400 * d) (86400 * d + 86400) = 0 := by unfold wrongP; rw [if_neg (by omega)]
  have n1 : rollN (86400 * d) (86400 * d + 86400) 86400 = 1 := by unfold rollN; rw [if_neg (by omega)]; omega
  have n2 : rollN (86400 * d) (86400 * d + 86400) 3600 = 24 := by unfold rollN; rw [if_neg (by omega)]; omega
  have q1 : 86400 * d / 86400 = d := by omega
  have q2 : 86400 * d / 3600 = 24 * d := by omega
  unfold rollR
  rw [if_pos w0, if_pos w0, n1, n2, q1, q2, if_neg (by omega), if_neg (by omega)]
  refine ⟨(totalP P ids acc (86400 * d) (86400 * (d + 1))).1, _, _, _, by simp only [rollL]; simp; rfl, rfl, rollL_len _ _ _ _, ?_⟩
  intro e1 e2 e3
  have m1 : 86400 * (d + 1) = 86400 * d + 86400 := by omega
  have s24 : (3600 : Int) * (24 * d + (24 : Nat)) = 86400 * d + 86400 := by omega
  have s0 : (3600 : Int) * (24 * d) = 86400 * d := by omega
  obtain ⟨r1, r2⟩ := roll_sum ho acc ids 3600 (24 * d) (by omega) (by omega) 24 (by omega) e2
  rw [s24, s0] at r1
  rw [m1] at e1 ⊢
  have e1' : (totalP P ids acc (86400 * d) (86400 * d + 86400)).2 = false := by simpa using e1
  obtain ⟨f1, g1⟩ := totalP_exact ho acc (by omega) (by omega) (by omega) (by omega) ids e1'
  rw [f1]
  exact sum_exact r1 r2 e3
theorem totalP_i64 (P : List Past) (ids : List Int) (acc : ByteArray) (a b : Int) : i64 (totalP P ids acc a b).1 := by
  unfold totalP
  have h : ∀ (l : List Int) (n : Int), 0 ≤ n → n ≤ 9223372036854775807 → i64 (sumP n l).1 := by
    intro l
    induction l with
    | nil => intro n h1 h2; exact ⟨by simp [sumP]; omega, by simp [sumP]; omega⟩
    | cons x l ih =>
      intro n h1 h2
      unfold sumP
      have hy : 0 ≤ (if 0 < x then x else 0) := by split <;> omega
      generalize (if 0 < x then x else 0) = y at hy ⊢
      split
      · exact ⟨by decide, by decide⟩
      · exact ih _ (by omega) (by omega)
  exact h _ 0 (by omega) (by omega)
theorem rollL_i64 (P : List Past) (ids : List Int) (acc : ByteArray) (span first : Int) : ∀ n, ∀ x ∈ (rollL (totalP P ids acc) span first n).1, i64 x
  | 0, x, hx => by simp [rollL] at hx
  | n + 1, x, hx => by
    simp only [rollL] at hx
    rcases List.mem_append.1 hx with hx | hx
    · exact rollL_i64 P ids acc span first n x hx
    · rw [List.mem_singleton.1 hx]
      exact totalP_i64 _ _ _ _ _
theorem roll_i64 (P : List Past) (ids : List Int) (acc : ByteArray) (fr tt span : Int) : ∀ x ∈ (rollR P ids acc fr tt span).1, i64 x := by
  unfold rollR
  split
  · split
    · simp
    · exact rollL_i64 P ids acc _ _ _
  · simp
/-! ### accounts -/
def hasB (l : List ByteArray) (x : ByteArray) : Bool := l.any fun a => decide (a = x)
theorem hasB_iff (l : List ByteArray) (x : ByteArray) : hasB l x = true ↔ x ∈ l := by
  unfold hasB
  rw [List.any_eq_true]
  constructor
  · rintro ⟨a, ha, h⟩
    rw [of_decide_eq_true h] at ha
    exact ha
  · exact fun h => ⟨x, h, decide_eq_true rfl⟩
/-- The accounts of a list, each once, as they come. -/
def dists (l : List ByteArray) : Nat → List ByteArray
  | 0 => []
  | j + 1 => if hasB (l.take j) (l.getD j ByteArray.empty) = true then dists l j else dists l j ++ [l.getD j ByteArray.empty]
theorem take_one {l : List ByteArray} {j : Nat} (h : j < l.length) : l.take (j + 1) = l.take j ++ [l.getD j ByteArray.empty] := by
  rw [List.take_succ_eq_append_getElem h]
  simp [List.getD_eq_getElem?_getD, h]
theorem dists_mem (l : List ByteArray) : ∀ j, j ≤ l.length → ∀ a, a ∈ dists l j ↔ a ∈ l.take j
  | 0, _, a => by simp [dists]
  | j + 1, h, a => by
    have ih := dists_mem l j (by omega)
    rw [take_one (by omega), List.mem_append, List.mem_singleton]
    simp only [dists]
    split
    · rename_i hm
      rw [hasB_iff] at hm
      rw [ih]
      constructor
      · exact .inl
      · rintro (h | rfl)
        · exact h
        · exact hm
    · rw [List.mem_append, ih, List.mem_singleton]
theorem dists_nodup (l : List ByteArray) : ∀ j, j ≤ l.length → (dists l j).Nodup
  | 0, _ => List.nodup_nil
  | j + 1, h => by
    have ih := dists_nodup l j (by omega)
    simp only [dists]
    split
    · exact ih
    · rename_i hm
      rw [hasB_iff] at hm
      rw [List.nodup_append]
      refine ⟨ih, by simp, fun a ha b hb => ?_⟩
      rw [List.mem_singleton.1 hb]
      rintro rfl
      exact hm ((dists_mem l j (by omega) _).1 ha)
theorem dists_len (l : List ByteArray) : ∀ j, (dists l j).length ≤ j
  | 0 => Nat.le_refl _
  | j + 1 => by
    have ih := dists_len l j
    simp only [dists]
    split
    · omega
    · simp; omega
theorem sum_pick (x : ByteArray) (c : Int) (f : ByteArray → Int) : ∀ (A : List ByteArray), A.Nodup → (A.map fun a => (if x = a then c else 0) + f a).sum = (if hasB A x = true then c else 0) + (A.map f).sum
  | [], _ => by simp [hasB]
  | a :: A, h => by
    rw [List.nodup_cons] at h
    have ih := sum_pick x c f A h.2
    rw [List.map_cons, List.sum_cons, List.map_cons, List.sum_cons, ih]
    by_cases hx : x = a
    · subst hx
      rw [if_pos rfl, if_neg (fun hh => h.1 ((hasB_iff A x).1 hh)), if_pos ((hasB_iff _ x).2 (by simp))]
      omega
    · rw [if_neg hx]
      by_cases hm : hasB A x = true
      · rw [if_pos hm, if_pos ((hasB_iff _ x).2 (by simp [(hasB_iff A x).1 hm]))]; omega
      · rw [if_neg hm, if_neg (fun hh => hm ((hasB_iff A x).2 (by simpa [hx] using (hasB_iff _ x).1 hh)))]; omega
theorem useS_accounts {P : List Past} (a b : Int) (A : List ByteArray) (hn : A.Nodup) (he : ByteArray.empty ∉ A) : ∀ ids : List Int, (∀ id ∈ ids, (runP P id).acc ∈ A) → (A.map fun acc => useS P ids acc a b).sum = useS P ids ByteArray.empty a b
  | [], _ => by
    have : (fun acc : ByteArray => useS P [] acc a b) = fun _ => 0 := rfl
    rw [this]
    clear this hn he
    induction A with
    | nil => rfl
    | cons x A ih => simpa using ih
  | id :: ids, h => by
    have ih := useS_accounts a b A hn he ids fun i hi => h i (by simp [hi])
    have e : (A.map fun acc => useS P (id :: ids) acc a b) = A.map fun acc => (if (runP P id).acc = acc then usedP (runP P id) a b else 0) + useS P ids acc a b := by
      refine List.map_congr_left fun acc hacc => ?_
      rw [useS_cons]
      have hne : acc ≠ ByteArray.empty := fun e => he (e ▸ hacc)
      unfold isOf
      rw [decide_eq_false hne, Bool.false_or]
      simp only [decide_eq_true_eq]
    rw [e, sum_pick _ _ _ A hn, if_pos ((hasB_iff _ _).2 (h id (by simp))), ih, useS_cons, if_pos (by unfold isOf; rw [decide_eq_true rfl, Bool.true_or])]
theorem useS_nn {P : List Past} (ho : OkP P) (acc : ByteArray) {a b : Int} (h0 : 0 ≤ a) (h1 : a ≤ 2199023255552) (h2 : 0 ≤ b) (h3 : b ≤ 2199023255552) (ids : List Int) : 0 ≤ useS P ids acc a b := sum_nn _ (usedL_nn ho acc h0 h1 h2 h3 ids)
theorem useS_le {P : List Past} (ho : OkP P) (acc : ByteArray) {a b : Int} (h0 : 0 ≤ a) (h1 : a ≤ 2199023255552) (h2 : 0 ≤ b) (h3 : b ≤ 2199023255552) : ∀ ids : List Int, useS P ids acc a b ≤ useS P ids ByteArray.empty a b
  | [] => Int.le_refl _
  | id :: ids => by
    have ih := useS_le ho acc h0 h1 h2 h3 ids
    have hn := usedP_nn (run_ok ho id) h0 h1 h2 h3
    have e : isOf P ByteArray.empty id = true := by unfold isOf; rw [decide_eq_true rfl, Bool.true_or]
    rw [useS_cons, useS_cons, if_pos e]
    split <;> omega
/-- All accounts together. -/
theorem parts_accounts {P : List Past} (ho : OkP P) {a b : Int} (h0 : 0 ≤ a) (h1 : a ≤ 2199023255552) (h2 : 0 ≤ b) (h3 : b ≤ 2199023255552) (ids : List Int) (A : List ByteArray) (hn : A.Nodup) (he : ByteArray.empty ∉ A) (hA : ∀ id ∈ ids, (runP P id).acc ∈ A)
    (e1 : (sumP 0 (A.map fun acc => (totalP P ids acc a b).1)).2 = false) (e2 : (totalP P ids ByteArray.empty a b).2 = false) : (sumP 0 (A.map fun acc => (totalP P ids acc a b).1)).1 = (totalP P ids ByteArray.empty a b).1 := by
  obtain ⟨f2, g2⟩ := totalP_exact ho _ h0 h1 h2 h3 ids e2
  have e : (A.map fun acc => (totalP P ids acc a b).1) = A.map fun acc => useS P ids acc a b := by
    refine List.map_congr_left fun acc _ => ?_
    have := useS_le ho acc h0 h1 h2 h3 ids
    rw [totalP_is ho acc h0 h1 h2 h3, if_pos (by omega)]
  rw [e] at e1 ⊢
  rw [f2]
  have hnn : ∀ x ∈ A.map fun acc => useS P ids acc a b, 0 ≤ x := fun x hx => by
    obtain ⟨acc, _, rfl⟩ := List.mem_map.1 hx
    exact useS_nn ho acc h0 h1 h2 h3 ids
  rw [sumP_sum _ 0 hnn (by omega) (by omega)] at e1 ⊢
  rw [useS_accounts a b A hn he ids hA, Int.zero_add] at e1 ⊢
  rw [if_pos (by omega)]
/-! ### what the walk wants -/
theorem hasB_snoc (l : List ByteArray) (t : Nat) (h : t < l.length) (x : ByteArray) : hasB (l.take (t + 1)) x = (hasB (l.take t) x || decide (l.getD t ByteArray.empty = x)) := by
  rw [take_one h]
  unfold hasB
  simp
def accsOf (ra : List S56) : List ByteArray := ra.map (·.f1)
theorem accs_len (ra : List S56) : (accsOf ra).length = ra.length := by simp [accsOf]
theorem accs_get (ra : List S56) (j : Nat) (h : j < ra.length) : (rd_T56 ra (j : Int)).f1 = (accsOf ra).getD j ByteArray.empty := by
  simp [rd_T56, accsOf, List.getD_eq_getElem?_getD, h]
theorem runs_accs (P : List Past) (ids : List Int) : accsOf (runsL P ByteArray.empty ids) = ids.map fun id => (runP P id).acc := by
  have e : ids.filter (isName P ByteArray.empty) = ids := List.filter_eq_self.2 fun id _ => by unfold isName; rw [decide_eq_true rfl]; rfl
  unfold accsOf runsL
  rw [e, List.map_map]
  rfl
theorem total_i64 {P : List Past} (ho : OkP P) (acc : ByteArray) {a b : Int} (h0 : 0 ≤ a) (h1 : a ≤ 2199023255552) (h2 : 0 ≤ b) (h3 : b ≤ 2199023255552) (ids : List Int) : i64 (totalP P ids acc a b).1 := by
  have hn := useS_nn ho acc h0 h1 h2 h3 ids
  rw [totalP_is ho acc h0 h1 h2 h3]
  split
  · exact ⟨by omega, by omega⟩
  · exact ⟨by decide, by decide⟩
/-- What the loop over the runs has put down. -/
def eachL (P : List Past) (ids : List Int) (lo hi : Int) (l : List ByteArray) (r : Nat) : List Int := (dists l r).map fun acc => (totalP P ids acc lo hi).1
theorem each_len (P : List Past) (ids : List Int) (lo hi : Int) (l : List ByteArray) (r : Nat) : (eachL P ids lo hi l r).length ≤ r := by
  unfold eachL
  rw [List.length_map]
  exact dists_len l r
theorem each_old (P : List Past) (ids : List Int) (lo hi : Int) (l : List ByteArray) (r : Nat) (h : hasB (l.take r) (l.getD r ByteArray.empty) = true) : eachL P ids lo hi l (r + 1) = eachL P ids lo hi l r := by
  unfold eachL
  simp only [dists]
  rw [if_pos h]
theorem each_new (P : List Past) (ids : List Int) (lo hi : Int) (l : List ByteArray) (r : Nat) (h : hasB (l.take r) (l.getD r ByteArray.empty) = false) : eachL P ids lo hi l (r + 1) = eachL P ids lo hi l r ++ [(totalP P ids (l.getD r ByteArray.empty) lo hi).1] := by
  unfold eachL
  simp only [dists]
  rw [if_neg (by rw [h]; simp), List.map_append]
  rfl
theorem each_i64 {P : List Past} (ho : OkP P) {a b : Int} (h0 : 0 ≤ a) (h1 : a ≤ 2199023255552) (h2 : 0 ≤ b) (h3 : b ≤ 2199023255552) (ids : List Int) (l : List ByteArray) (r : Nat) : ∀ x ∈ eachL P ids a b l r, i64 x := by
  intro x hx
  obtain ⟨acc, _, rfl⟩ := List.mem_map.1 hx
  exact total_i64 ho acc h0 h1 h2 h3 ids
theorem each_all {P : List Past} (ho : OkP P) {a b : Int} (h0 : 0 ≤ a) (h1 : a ≤ 2199023255552) (h2 : 0 ≤ b) (h3 : b ≤ 2199023255552) (ids : List Int) (ra : List S56) (hra : runsL P ByteArray.empty ids = ra) (he : ByteArray.empty ∉ (accsOf ra).take ra.length)
    (e1 : (sumP 0 (eachL P ids a b (accsOf ra) ra.length)).2 = false) (e2 : (totalP P ids ByteArray.empty a b).2 = false) : (sumP 0 (eachL P ids a b (accsOf ra) ra.length)).1 = (totalP P ids ByteArray.empty a b).1 := by
  have hl : ra.length ≤ (accsOf ra).length := by rw [accs_len]; exact Nat.le_refl _
  refine parts_accounts ho h0 h1 h2 h3 ids (dists (accsOf ra) ra.length) (dists_nodup _ _ hl) (fun h => he ((dists_mem _ _ hl _).1 h)) (fun id hid => ?_) e1 e2
  rw [dists_mem _ _ hl, List.take_of_length_le (by rw [accs_len]; exact Nat.le_refl _), ← hra, runs_accs]
  exact List.mem_map.2 ⟨id, hid, rfl⟩
end Go.Proofs.Ytinpgejkkfpckaa.Pr
