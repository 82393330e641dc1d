/-
  Texts of this session, laid together by wip/tools/merge.py: Q3, Q4, Q5, Q6, HRefTake, Q7.
-/
import Derived.Test.YtinpgejkkfpckaaHRuns
import Derived.Test.YtinpgejkkfpckaaHAwake
import Derived.Test.YtinpgejkkfpckaaPr9
import Derived.Test.YtinpgejkkfpckaaPr10
import Derived.Test.YtinpgejkkfpckaaPr11
import Derived.Test.YtinpgejkkfpckaaPr16
import Derived.Test.YtinpgejkkfpckaaPr17
import Derived.Test.YtinpgejkkfpckaaHCopy
section
namespace Go.Proofs.Ytinpgejkkfpckaa.Pr
open Go.RowKit Go.Proofs.YtinpgejkkfpckaaW.PrintWords
set_option linter.unusedVariables false
set_option linter.unusedSimpArgs false
/-! ### Right -/
theorem ref_right (a b c : Int) (d e : ByteArray) (f g h : Int) (k : Nat) (hk : 2 ≤ k) : musterref27_Right.f k a b c d e f g h = some (rightP a b c d e f g h) := by
  obtain ⟨k, rfl⟩ : ∃ m, k = m + 2 := ⟨k - 2, by omega⟩
  have no : ∀ {x : Option Bool}, ¬ fitP a b c d e f g → x = some false → x = some (rightP a b c d e f g h) := fun hf hx => by rw [hx, right_no hf]
  unfold musterref27_Right.f
  have j : musterref27_Right.j0 (k + 2) true a b c d e f g h = some false := by simp only [musterref27_Right.j0]; rfl
  by_cases c1 : a < 1
  · rw [if_pos c1]; exact no (fun z => by have := z.1; omega) j
  rw [if_neg c1]
  by_cases c2 : a > 1073741824
  · rw [if_pos c2]; exact no (fun z => by have := z.2.1; omega) j
  rw [if_neg c2]
  by_cases c3 : c < 0
  · rw [if_pos c3]; exact no (fun z => by have := z.2.2.2.2.1; omega) j
  rw [if_neg c3]
  by_cases c4 : c > 1099511627776
  · rw [if_pos c4]; exact no (fun z => by have := z.2.2.2.2.2.1; omega) j
  rw [if_neg c4]
  by_cases c5 : (d.size : Int) > 16
  · rw [if_pos c5]; exact no (fun z => by have := z.2.2.2.2.2.2.1; omega) j
  rw [if_neg c5]
  by_cases c6 : (e.size : Int) > 16
  · rw [if_pos c6]; exact no (fun z => by have := z.2.2.2.2.2.2.2.1; omega) j
  rw [if_neg c6]
  by_cases c7 : f < 0
  · rw [if_pos c7]; exact no (fun z => by have := z.2.2.2.2.2.2.2.2.1; omega) j
  rw [if_neg c7]
  by_cases c8 : f > 32
  · rw [if_pos c8]; exact no (fun z => by have := z.2.2.2.2.2.2.2.2.2.1; omega) j
  rw [if_neg c8]
  by_cases c9 : g < 0
  · rw [if_pos c9]; exact no (fun z => by have := z.2.2.2.2.2.2.2.2.2.2.1; omega) j
  rw [if_neg c9]
  by_cases c10 : g > 64
  · rw [decide_eq_true c10]; exact no (fun z => by have := z.2.2.2.2.2.2.2.2.2.2.2; omega) j
  rw [decide_eq_false c10]
  simp only [musterref27_Right.j0]
  rw [if_neg (by simp)]
  by_cases b1 : b = 1
  · subst b1
    rw [if_pos rfl]
    simp only [musterref27_Right.j1]
    rw [if_pos (show ((1 : Int) == 1) = true from rfl), right_yes ⟨by omega, by omega, by omega, by omega, by omega, by omega, by omega, by omega, by omega, by omega, by omega, by omega⟩, if_neg (by decide)]
    by_cases z : h = 0 <;> simp [z]
  · rw [if_neg b1]
    simp only [musterref27_Right.j1]
    by_cases b2 : b = 2
    · subst b2
      rw [if_pos (show ((2 : Int) == 2) = true from rfl), right_yes ⟨by omega, by omega, by omega, by omega, by omega, by omega, by omega, by omega, by omega, by omega, by omega, by omega⟩, if_neg (by decide)]
      by_cases z : h = 0 <;> simp [z]
    · have e2 : (b == 2) = false := by simp [b2]
      rw [e2, if_neg (by simp)]
      by_cases b3 : b = 3
      · subst b3
        rw [if_pos rfl, right_yes ⟨by omega, by omega, by omega, by omega, by omega, by omega, by omega, by omega, by omega, by omega, by omega, by omega⟩, if_pos rfl]
        by_cases z : h ≥ 3
        · rw [if_pos z, decide_eq_true z, Bool.true_and]
        · rw [if_neg z, decide_eq_false z, Bool.false_and]
      · rw [if_neg b3]
        exact no (fun z => by have h1 := z.2.2.1; have h2 := z.2.2.2.1; omega) rfl
/-! ### find -/
def pastT (p : Past) (b : Bool) : Int × Int × Int × ByteArray × ByteArray × Int × Int × Int × Bool := (p.id, p.what, p.at_, p.acc, p.usr, p.nodes, p.cores, p.st, b)
def foundT (q : Option Past) : Int × Int × Int × ByteArray × ByteArray × Int × Int × Int × Bool := pastT (q.getD zeroPast) q.isSome
theorem rdT (l : List S36) (i : Nat) (h : i < l.length) : rd_T36 l (i : Int) = l[i] := by simp [rd_T36, List.getD_eq_getElem?_getD, h]
theorem getP_cons (p : Past) (P : List Past) (a b : Int) : getP (p :: P) a b = if p.id = a ∧ p.what = b then some p else getP P a b := by
  unfold getP
  rw [List.find?_cons]
  by_cases h : p.id = a ∧ p.what = b
  · rw [if_pos h]; obtain ⟨rfl, rfl⟩ := h; simp
  · rw [if_neg h]
    have : ((a == p.id) && (b == p.what)) = false := by
      rw [Bool.eq_false_iff]
      intro hh
      simp at hh
      exact h ⟨hh.1.symm, hh.2.symm⟩
    rw [this]
theorem find_loop (l : List S36) (hl : l.length < 9223372036854775807) (a b : Int) : ∀ (d i k : Nat), i ≤ l.length → l.length - i ≤ d → d < k → musterref27_find.l0 k l a b (i : Int) = some (foundT (getP ((l.drop i).map pastS) a b))
  | d, i, 0, _, _, hk => by omega
  | d, i, k + 1, h1, h2, h3 => by
    simp only [musterref27_find.l0]
    by_cases hi : i < l.length
    · rw [if_pos (by omega), if_pos (by omega), rdT l i hi, List.drop_eq_getElem_cons hi, List.map_cons, getP_cons, wrap_succ i (by omega)]
      have ih := find_loop l hl a b (d - 1) (i + 1) k (by omega) (by omega) (by omega)
      by_cases e1 : l[i].f0 = a
      · rw [if_pos e1]
        by_cases e2 : l[i].f1 = b
        · rw [if_pos e2, if_pos ⟨e1, e2⟩]
          rfl
        · rw [if_neg e2, if_neg (fun h => e2 h.2)]
          exact ih
      · rw [if_neg e1, if_neg (fun h => e1 h.1)]
        exact ih
    · rw [if_neg (by omega), List.drop_of_length_le (by omega)]
      rfl
theorem find_spec (l : List S36) (hl : l.length < 9223372036854775807) (a b : Int) (k : Nat) (hk : l.length < k) : musterref27_find.f k l a b = some (foundT (getP (l.map pastS) a b)) :=
  find_loop l hl a b l.length 0 k (by omega) (by omega) hk
/-! ### ids -/
/-- The ids of events, rising. -/
def idsP (P : List Past) : List Int := P.foldl (fun ids p => insI ids p.id) []
theorem idsP_snoc (P : List Past) (p : Past) : idsP (P ++ [p]) = insI (idsP P) p.id := by simp [idsP, List.foldl_append]
theorem fold_rise : ∀ (P : List Past) (ids : List Int), Rise ids → Rise (P.foldl (fun ids p => insI ids p.id) ids)
  | [], ids, h => h
  | p :: P, ids, h => fold_rise P _ (insI_rise h p.id)
theorem idsP_rise (P : List Past) : Rise (idsP P) := fold_rise P [] List.Pairwise.nil
theorem fold_mem : ∀ (P : List Past) (ids : List Int) (x : Int), x ∈ P.foldl (fun ids p => insI ids p.id) ids ↔ x ∈ ids ∨ ∃ p ∈ P, p.id = x
  | [], ids, x => by simp
  | p :: P, ids, x => by
    rw [List.foldl_cons, fold_mem P _ x, insI_mem]
    constructor
    · rintro ((h | h) | ⟨q, hq, h⟩)
      · exact .inl h
      · exact .inr ⟨p, by simp, h.symm⟩
      · exact .inr ⟨q, by simp [hq], h⟩
    · rintro (h | ⟨q, hq, h⟩)
      · exact .inl (.inl h)
      · rcases List.mem_cons.1 hq with rfl | hq
        · exact .inl (.inr h.symm)
        · exact .inr ⟨q, hq, h⟩
theorem idsP_mem (P : List Past) (x : Int) : x ∈ idsP P ↔ ∃ p ∈ P, p.id = x := by unfold idsP; rw [fold_mem]; simp
theorem fold_len : ∀ (P : List Past) (ids : List Int), (P.foldl (fun ids p => insI ids p.id) ids).length ≤ ids.length + P.length
  | [], ids => by simp
  | p :: P, ids => by
    have h := fold_len P (insI ids p.id)
    rw [insI_len] at h
    rw [List.foldl_cons, List.length_cons]
    split at h <;> omega
theorem idsP_len (P : List Past) : (idsP P).length ≤ P.length := by have := fold_len P []; simpa [idsP] using this
theorem ids_place (l : List S36) (ids : List Int) (hr : Rise ids) (i : Nat) (hi : i < l.length) (hids : ids.length < 1000000) (hl : l.length < 1000000) : ∀ (d j k : Nat), j ≤ under ids l[i].f0 → under ids l[i].f0 - j ≤ d → d < k →
    ∃ k', k' < k ∧ k - k' ≤ d + 1 ∧ musterref27_ids.l1 k l ids (i : Int) (j : Int) = musterref27_ids.l0 k' l (insI ids l[i].f0) ((i + 1 : Nat) : Int)
  | d, j, 0, _, _, hk => by omega
  | d, j, k + 1, h1, h2, h3 => by
    have hle := under_le ids l[i].f0
    simp only [musterref27_ids.l1]
    rw [wrap_succ i (by omega), wrap_succ j (by omega), rdT l i hi]
    by_cases hj : j < ids.length
    · rw [if_pos (by omega), if_pos (by omega), if_pos (by omega), if_pos (by omega), rd_nat]
      have hu := under_iff hr l[i].f0 j hj
      by_cases hlt : ids.getD j 0 < l[i].f0
      · rw [if_pos hlt]
        have := hu.1 hlt
        obtain ⟨k', a1, a2, a3⟩ := ids_place l ids hr i hi hids hl (d - 1) (j + 1) k (by omega) (by omega) (by omega)
        exact ⟨k', by omega, by omega, a3⟩
      · rw [if_neg hlt]
        have e : under ids l[i].f0 = j := by have : ¬ j < under ids l[i].f0 := fun h => hlt (hu.2 h); omega
        have hm := mem_under hr l[i].f0
        rw [e] at hm
        refine ⟨k, by omega, by omega, ?_⟩
        by_cases heq : ids.getD j 0 = l[i].f0
        · rw [if_pos heq]
          unfold insI
          rw [if_pos (hm.2 ⟨hj, heq⟩)]
        · rw [if_neg heq, if_pos (by omega)]
          unfold insI
          rw [if_neg (fun h => heq (hm.1 h).2), e]
          simp only [Option.bind_some, List.nil_append, Int.toNat_natCast, List.length_nil, Nat.zero_add, List.length_append, List.length_take, List.length_drop, List.length_cons]
          rw [if_pos (by omega)]
          rw [if_pos (by omega), if_pos (by omega)]
    · have e : under ids l[i].f0 = j := by omega
      have hm := mem_under hr l[i].f0
      rw [e] at hm
      refine ⟨k, by omega, by omega, ?_⟩
      rw [if_neg (by omega), if_pos (by omega), if_pos (by omega)]
      unfold insI
      rw [if_neg (fun h => hj (hm.1 h).1), e]
      simp only [Option.bind_some, List.nil_append, Int.toNat_natCast, List.length_nil, Nat.zero_add, List.length_append, List.length_take, List.length_drop, List.length_cons]
      rw [if_pos (by omega)]
      rw [if_pos (by omega), if_pos (by omega), if_pos (by omega), if_pos (by omega)]
theorem ids_loop (l : List S36) (hl : l.length < 900000) : ∀ (d i k : Nat) (ids : List Int), Rise ids → ids.length ≤ i → i ≤ l.length → l.length - i ≤ d → d * (l.length + 3) < k →
    musterref27_ids.l0 k l ids (i : Int) = some (((l.drop i).map pastS).foldl (fun ids p => insI ids p.id) ids)
  | d, i, 0, ids, _, _, _, _, hk => by omega
  | d, i, k + 1, ids, hr, hids, h1, h2, h3 => by
    simp only [musterref27_ids.l0]
    by_cases hi : i < l.length
    · obtain ⟨d, rfl⟩ : ∃ m, d = m + 1 := ⟨d - 1, by omega⟩
      rw [Nat.add_mul, Nat.one_mul] at h3
      have hle := under_le ids l[i].f0
      obtain ⟨k', a1, a2, a3⟩ := ids_place l ids hr i hi (by omega) (by omega) (under ids l[i].f0) 0 k (by omega) (by omega) (by omega)
      rw [if_pos (by omega), List.drop_eq_getElem_cons hi, List.map_cons, List.foldl_cons]
      have a4 : musterref27_ids.l1 k l ids (i : Int) 0 = musterref27_ids.l0 k' l (insI ids l[i].f0) ((i + 1 : Nat) : Int) := a3
      rw [a4]
      exact ids_loop l hl d (i + 1) k' (insI ids l[i].f0) (insI_rise hr _) (by rw [insI_len]; split <;> omega) (by omega) (by omega) (by omega)
    · rw [if_neg (by omega), List.drop_of_length_le (by omega)]
      rfl
theorem ids_ev (l : List S36) (hl : l.length < 900000) : Ev (fun k => musterref27_ids.f k l) (idsP (l.map pastS)) :=
  ⟨l.length * (l.length + 3) + 1, fun k hk => by
    have := ids_loop l hl l.length 0 k [] List.Pairwise.nil (by simp) (by omega) (by omega) (by omega)
    exact this⟩
end Go.Proofs.Ytinpgejkkfpckaa.Pr
end
section
namespace Go.Proofs.Ytinpgejkkfpckaa.Pr
open Go.RowKit Go.Proofs.YtinpgejkkfpckaaW.PrintWords
set_option linter.unusedVariables false
set_option linter.unusedSimpArgs false
/-- Events as they are known: each is right. -/
def OkP (P : List Past) : Prop := ∀ p ∈ P, rightPast p = true
theorem right_fit {p : Past} (h : rightPast p = true) : fitP p.id p.what p.at_ p.acc p.usr p.nodes p.cores := by
  unfold rightPast rightP at h
  rw [Bool.and_eq_true, decide_eq_true_eq] at h
  exact h.1
theorem getP_mem {P : List Past} {a b : Int} {p : Past} (h : getP P a b = some p) : p ∈ P := List.mem_of_find?_eq_some h
def runT (r : RunT) : Int × ByteArray × ByteArray × Int × Int × Int × Int × Int × Int := (r.id, r.acc, r.usr, r.nodes, r.cores, r.st, r.sub, r.start, r.stop)
theorem ref_run (l : List S36) (hl : l.length < 900000) (ho : OkP (l.map pastS)) (id : Int) (k : Nat) (hk : l.length + 1 < k) : musterref27_run.f k l id = some (runT (runP (l.map pastS) id)) := by
  obtain ⟨k, rfl⟩ : ∃ m, k = m + 1 := ⟨k - 1, by omega⟩
  unfold musterref27_run.f
  rw [find_spec l (by omega) id 1 (k + 1) (by omega), find_spec l (by omega) id 2 (k + 1) (by omega), find_spec l (by omega) id 3 (k + 1) (by omega)]
  simp only [Option.bind_some]
  unfold runP upd
  cases h3 : getP (l.map pastS) id 3 with
  | none =>
    cases h2 : getP (l.map pastS) id 2 with
    | none => cases h1 : getP (l.map pastS) id 1 <;> rfl
    | some b => cases h1 : getP (l.map pastS) id 1 <;> rfl
  | some c =>
    have hc := (right_fit (ho c (getP_mem h3))).2.2.2.2.1
    have hc' : ¬ c.at_ < 0 := by omega
    cases h2 : getP (l.map pastS) id 2 with
    | none => cases h1 : getP (l.map pastS) id 1 <;> rfl
    | some b =>
      have e : with2 (with3 (run0 id) c) b = { with3 (run0 id) c with acc := b.acc, usr := b.usr, nodes := b.nodes, cores := b.cores, start := b.at_, st := c.st } := by
        unfold with2
        rw [if_neg (show ¬ (with3 (run0 id) c).stop < 0 from hc')]
        rfl
      cases h1 : getP (l.map pastS) id 1 with
      | none => simp only []; rw [e]; rfl
      | some a => simp only []; rw [e]; rfl
/-- What a run's numbers are between. -/
def RunOk (r : RunT) : Prop := (0 ≤ r.nodes ∧ r.nodes ≤ 32) ∧ (0 ≤ r.cores ∧ r.cores ≤ 64) ∧ (-1 ≤ r.start ∧ r.start ≤ 1099511627776) ∧ (-1 ≤ r.stop ∧ r.stop ≤ 1099511627776)
theorem run_ok {P : List Past} (ho : OkP P) (id : Int) : RunOk (runP P id) := by
  have f : ∀ {q : Int} {p : Past}, getP P id q = some p → (0 ≤ p.nodes ∧ p.nodes ≤ 32) ∧ (0 ≤ p.cores ∧ p.cores ≤ 64) ∧ 0 ≤ p.at_ ∧ p.at_ ≤ 1099511627776 := fun {q p} h => by
    obtain ⟨_, _, _, _, h5, h6, _, _, h9, h10, h11, h12⟩ := right_fit (ho p (getP_mem h))
    exact ⟨⟨h9, h10⟩, ⟨h11, h12⟩, h5, h6⟩
  have s0 : RunOk (run0 id) := by simp [RunOk, run0]
  have s1 : RunOk (upd P id 3 with3 (run0 id)) := by
    unfold upd
    cases h : getP P id 3 with
    | none => exact s0
    | some p =>
      obtain ⟨a, b, c, d⟩ := f h
      exact ⟨a, b, s0.2.2.1, by show -1 ≤ p.at_; omega, d⟩
  have s2 : RunOk (upd P id 2 with2 (upd P id 3 with3 (run0 id))) := by
    generalize upd P id 3 with3 (run0 id) = r at s1 ⊢
    unfold upd
    cases h : getP P id 2 with
    | none => exact s1
    | some p =>
      obtain ⟨a, b, c, d⟩ := f h
      exact ⟨a, b, ⟨by show -1 ≤ p.at_; omega, d⟩, s1.2.2.2⟩
  unfold runP
  generalize upd P id 2 with2 (upd P id 3 with3 (run0 id)) = r at s2 ⊢
  unfold upd
  cases h : getP P id 1 with
  | none => exact s2
  | some p =>
    obtain ⟨a, b, c, d⟩ := f h
    exact ⟨a, b, s2.2.2.1, s2.2.2.2⟩
theorem ba_iff (a b : ByteArray) : a.toList = b.toList ↔ a = b := ⟨ba_eq, fun h => by rw [h]⟩
theorem ba_nil (a : ByteArray) : a.toList = [] ↔ a = ByteArray.empty := ⟨ba_empty, fun h => by rw [h]; simp⟩
/-! ### Runs -/
theorem runs_loop (l : List S36) (hl : l.length < 900000) (ho : OkP (l.map pastS)) (name : ByteArray) (ids : List Int) (hids : ids.length < 900000) : ∀ (d i k : Nat) (out : List S56), i ≤ ids.length → ids.length - i ≤ d → d + l.length + 2 < k → out.length ≤ i →
    musterref27_Runs.l0 k l name ids out (i : Int) = some (out ++ runsL (l.map pastS) name (ids.drop i))
  | d, i, 0, out, _, _, hk, _ => by omega
  | d, i, k + 1, out, h1, h2, h3, h4 => by
    simp only [musterref27_Runs.l0]
    by_cases hi : i < ids.length
    · have e : ids.drop i = ids[i] :: ids.drop (i + 1) := List.drop_eq_getElem_cons hi
      have eg : ids.getD i 0 = ids[i] := by simp [List.getD_eq_getElem?_getD, hi]
      rw [if_pos (by omega), if_pos (by omega), rd_nat, eg, ref_run l hl ho ids[i] k (by omega), wrap_succ i (by omega), e]
      simp only [Option.bind_some, runT]
      have hcons : runsL (l.map pastS) name (ids[i] :: ids.drop (i + 1)) = (if isName (l.map pastS) name ids[i] = true then [runS (runP (l.map pastS) ids[i])] else []) ++ runsL (l.map pastS) name (ids.drop (i + 1)) := by
        unfold runsL
        rw [List.filter_cons]
        split <;> rfl
      rw [hcons]
      have ih := fun out' h => runs_loop l hl ho name ids hids (d - 1) (i + 1) k out' (by omega) (by omega) (by omega) h
      rw [← List.append_assoc]
      simp only [ba_nil, ba_iff]
      unfold isName
      by_cases c1 : name = ByteArray.empty
      · rw [if_pos c1, if_pos (by omega), decide_eq_true c1, Bool.true_or, Bool.true_or, if_pos rfl]
        exact ih _ (by simp; omega)
      · rw [if_neg c1, decide_eq_false c1, Bool.false_or]
        by_cases c2 : (runP (l.map pastS) ids[i]).acc = name
        · rw [if_pos c2, if_pos (by omega), decide_eq_true c2, Bool.true_or, if_pos rfl]
          exact ih _ (by simp; omega)
        · rw [if_neg c2, decide_eq_false c2, Bool.false_or]
          by_cases c3 : (runP (l.map pastS) ids[i]).usr = name
          · rw [if_pos c3, if_pos (by omega), decide_eq_true c3, if_pos rfl]
            exact ih _ (by simp; omega)
          · rw [if_neg c3, decide_eq_false c3, if_neg (by simp), List.append_nil]
            exact ih _ (by omega)
    · rw [if_neg (by omega), List.drop_of_length_le (by omega)]
      simp [runsL]
theorem ref_runs (l : List S36) (hl : l.length < 400000) (ho : OkP (l.map pastS)) (name : ByteArray) : Ev (fun k => musterref27_Runs.f k l name) (runsL (l.map pastS) name (idsP (l.map pastS))) := by
  obtain ⟨K, hK⟩ := ids_ev l (by omega)
  have hlen := idsP_len (l.map pastS)
  rw [List.length_map] at hlen
  refine ⟨K + 2 * l.length + 5, fun k hk => ?_⟩
  have h3 : musterref27_ids.f k l = some (idsP (l.map pastS)) := hK k (by omega)
  show musterref27_Runs.f k l name = _
  unfold musterref27_Runs.f
  rw [h3]
  simp only [Option.bind_some]
  have := runs_loop l (by omega) ho name (idsP (l.map pastS)) (by omega) _ 0 k [] (by omega) (Nat.le_refl _) (by omega) (by simp)
  exact this
/-! ### sums: noughts do not count -/
theorem sum_flat (g1 g2 : Int → List Int) : ∀ (ids : List Int) (n : Int), 0 ≤ n → n ≤ 9223372036854775807 → (∀ id ∈ ids, g1 id = g2 id ∨ g1 id = [] ∧ g2 id = [0]) → sumP n (ids.flatMap g1) = sumP n (ids.flatMap g2)
  | [], n, _, _, _ => rfl
  | id :: ids, n, h1, h2, h => by
    have app : ∀ (a b1 b2 : List Int) (n : Int), 0 ≤ n → n ≤ 9223372036854775807 → (∀ m, 0 ≤ m → m ≤ 9223372036854775807 → sumP m b1 = sumP m b2) → sumP n (a ++ b1) = sumP n (a ++ b2) := by
      intro a
      induction a with
      | nil => intro b1 b2 n h1 h2 h; exact h n h1 h2
      | cons x a ih =>
        intro b1 b2 n h1 h2 h
        have hq : 0 ≤ (if 0 < x then x else 0) := by split <;> omega
        simp only [List.cons_append, sumP]
        generalize (if 0 < x then x else 0) = y at hq ⊢
        by_cases hb : 9223372036854775807 < n + y
        · rw [if_pos hb, if_pos hb]
        · rw [if_neg hb, if_neg hb]
          exact ih b1 b2 _ (by omega) (by omega) h
    have ih := fun m h1 h2 => sum_flat g1 g2 ids m h1 h2 (fun x hx => h x (List.mem_cons_of_mem _ hx))
    rw [List.flatMap_cons, List.flatMap_cons]
    rcases h id (by simp) with e | ⟨e1, e2⟩
    · rw [e]
      exact app _ _ _ n h1 h2 ih
    · rw [e1, e2]
      simp only [List.nil_append, List.cons_append, sumP]
      rw [if_neg (by simp; omega)]
      simpa using ih n h1 h2
/-- What a run used, told without wrapping. -/
theorem used_plain {r : RunT} (ho : RunOk r) {fr tt : Int} (h1 : 0 ≤ fr) (h2 : fr ≤ 2199023255552) (h3 : 0 ≤ tt) (h4 : tt ≤ 2199023255552) :
    usedP r fr tt = if r.start < 0 then 0 else r.nodes * r.cores * mx ((if r.stop ≥ 0 then mn tt r.stop else tt) - mx fr r.start) 0 := by
  obtain ⟨⟨n1, n2⟩, ⟨c1, c2⟩, ⟨s1, s2⟩, ⟨e1, e2⟩⟩ := ho
  unfold usedP
  by_cases hs : r.start < 0
  · rw [if_pos hs, if_pos hs]
  · rw [if_neg hs, if_neg hs]
    have hb : 0 ≤ (if r.stop ≥ 0 then mn tt r.stop else tt) ∧ (if r.stop ≥ 0 then mn tt r.stop else tt) ≤ 2199023255552 := by
      unfold mn
      repeat' split
      all_goals omega
    have ha : 0 ≤ mx fr r.start ∧ mx fr r.start ≤ 2199023255552 := by
      unfold mx
      split <;> omega
    generalize (if r.stop ≥ 0 then mn tt r.stop else tt) = b at hb ⊢
    generalize mx fr r.start = a at ha ⊢
    rw [w64 (x := b - a) ⟨by omega, by omega⟩]
    have hm : 0 ≤ mx (b - a) 0 ∧ mx (b - a) 0 ≤ 2199023255552 := by
      unfold mx
      split <;> omega
    generalize mx (b - a) 0 = m at hm ⊢
    have hp : 0 ≤ r.nodes * r.cores ∧ r.nodes * r.cores ≤ 2048 := ⟨Int.mul_nonneg n1 c1, by
      have := Int.mul_le_mul n2 c2 c1 (by omega : (0 : Int) ≤ 32)
      simpa using this⟩
    rw [w64 (x := r.nodes * r.cores) ⟨by omega, by omega⟩]
    generalize r.nodes * r.cores = q at hp ⊢
    have hqm : 0 ≤ q * m ∧ q * m ≤ 2048 * 2199023255552 := ⟨Int.mul_nonneg hp.1 hm.1, Int.mul_le_mul hp.2 hm.2 hm.1 (by omega)⟩
    rw [w64 ⟨by omega, by omega⟩]
theorem amount_w {a q : Int} (h1 : 0 ≤ a) (h2 : a ≤ 2199023255552) (h3 : 0 ≤ q) (h4 : q ≤ 2048) : wrap64 (a * q) = q * a := by
  have h : 0 ≤ a * q ∧ a * q ≤ 2199023255552 * 2048 := ⟨Int.mul_nonneg h1 h3, Int.mul_le_mul h2 h4 h3 (by omega)⟩
  rw [w64 ⟨by omega, by omega⟩, Int.mul_comm]
theorem prod_ok {r : RunT} (ho : RunOk r) : 0 ≤ r.nodes * r.cores ∧ r.nodes * r.cores ≤ 2048 ∧ wrap64 (r.nodes * r.cores) = r.nodes * r.cores := by
  obtain ⟨⟨n1, n2⟩, ⟨c1, c2⟩, _, _⟩ := ho
  have hp : 0 ≤ r.nodes * r.cores ∧ r.nodes * r.cores ≤ 2048 := ⟨Int.mul_nonneg n1 c1, by
    have := Int.mul_le_mul n2 c2 c1 (by omega : (0 : Int) ≤ 32)
    simpa using this⟩
  exact ⟨hp.1, hp.2, w64 ⟨by omega, by omega⟩⟩
/-- What the document puts down for a run of an account. -/
def refG (P : List Past) (acc : ByteArray) (fr tt : Int) (id : Int) : List Int :=
  if isOf P acc id = true ∧ ¬ (runP P id).start < 0 then
    if mx fr (runP P id).start < (if (runP P id).stop ≥ 0 then mn tt (runP P id).stop else tt) then [usedP (runP P id) fr tt] else []
  else []
def refH (P : List Past) (acc : ByteArray) (fr tt : Int) (id : Int) : List Int := if isOf P acc id = true ∧ ¬ (runP P id).start < 0 then [usedP (runP P id) fr tt] else []
def useG (P : List Past) (acc : ByteArray) (fr tt : Int) (id : Int) : List Int := if isOf P acc id = true then [usedP (runP P id) fr tt] else []
theorem usedL_flat (P : List Past) (acc : ByteArray) (fr tt : Int) : ∀ ids, usedL P acc fr tt ids = ids.flatMap (useG P acc fr tt)
  | [] => rfl
  | id :: ids => by
    have ih := usedL_flat P acc fr tt ids
    unfold usedL at ih ⊢
    rw [List.filter_cons, List.flatMap_cons, ← ih]
    unfold useG
    split <;> rfl
theorem usedP_nought {r : RunT} (h : r.start < 0) (fr tt : Int) : usedP r fr tt = 0 := if_pos h
theorem totalP_ref {P : List Past} (ho : OkP P) (acc : ByteArray) (ids : List Int) {fr tt : Int} (h1 : 0 ≤ fr) (h2 : fr ≤ 2199023255552) (h3 : 0 ≤ tt) (h4 : tt ≤ 2199023255552) :
    sumP 0 (ids.flatMap (refG P acc fr tt)) = totalP P ids acc fr tt ∧ sumP 0 (ids.flatMap (refH P acc fr tt)) = totalP P ids acc fr tt := by
  unfold totalP
  rw [usedL_flat]
  refine ⟨sum_flat _ _ ids 0 (by omega) (by omega) fun id _ => ?_, sum_flat _ _ ids 0 (by omega) (by omega) fun id _ => ?_⟩
  · unfold refG useG
    by_cases c1 : isOf P acc id = true
    · by_cases c2 : (runP P id).start < 0
      · rw [if_neg (fun h => h.2 c2), if_pos c1, usedP_nought c2]
        exact .inr ⟨rfl, rfl⟩
      · rw [if_pos ⟨c1, c2⟩, if_pos c1]
        by_cases c3 : mx fr (runP P id).start < (if (runP P id).stop ≥ 0 then mn tt (runP P id).stop else tt)
        · rw [if_pos c3]; exact .inl rfl
        · rw [if_neg c3]
          refine .inr ⟨rfl, ?_⟩
          rw [used_plain (run_ok ho id) h1 h2 h3 h4, if_neg c2]
          have : mx ((if (runP P id).stop ≥ 0 then mn tt (runP P id).stop else tt) - mx fr (runP P id).start) 0 = 0 := by
            generalize (if (runP P id).stop ≥ 0 then mn tt (runP P id).stop else tt) = b at c3 ⊢
            generalize mx fr (runP P id).start = a at c3 ⊢
            unfold mx
            split <;> omega
          rw [this, Int.mul_zero]
    · rw [if_neg (fun h => c1 h.1), if_neg c1]
      exact .inl rfl
  · unfold refH useG
    by_cases c1 : isOf P acc id = true
    · by_cases c2 : (runP P id).start < 0
      · rw [if_neg (fun h => h.2 c2), if_pos c1, usedP_nought c2]
        exact .inr ⟨rfl, rfl⟩
      · rw [if_pos ⟨c1, c2⟩, if_pos c1]
        exact .inl rfl
    · rw [if_neg (fun h => c1 h.1), if_neg c1]
      exact .inl rfl
end Go.Proofs.Ytinpgejkkfpckaa.Pr
end
section
namespace Go.Proofs.Ytinpgejkkfpckaa.Pr
open Go.RowKit Go.Proofs.YtinpgejkkfpckaaW.PrintWords
set_option linter.unusedVariables false
set_option linter.unusedSimpArgs false
theorem push_val {r : RunT} (ho : RunOk r) {fr tt E : Int} (h1 : 0 ≤ fr) (h2 : fr ≤ 2199023255552) (h3 : 0 ≤ tt) (h4 : tt ≤ 2199023255552) (hs : ¬ r.start < 0) (hE : E = if r.stop ≥ 0 then mn tt r.stop else tt) :
    wrap64 (mx (wrap64 (E - mx fr r.start)) 0 * wrap64 (r.nodes * r.cores)) = usedP r fr tt ∧ (mx fr r.start < E → wrap64 (wrap64 (E - mx fr r.start) * wrap64 (r.nodes * r.cores)) = usedP r fr tt) := by
  obtain ⟨p1, p2, p3⟩ := prod_ok ho
  rw [used_plain ho h1 h2 h3 h4, if_neg hs, ← hE, p3]
  obtain ⟨⟨n1, n2⟩, ⟨c1, c2⟩, ⟨s1, s2⟩, ⟨e1, e2⟩⟩ := ho
  have hb : 0 ≤ E ∧ E ≤ 2199023255552 := by
    rw [hE]
    unfold mn
    repeat' split
    all_goals omega
  have ha : 0 ≤ mx fr r.start ∧ mx fr r.start ≤ 2199023255552 := by
    unfold mx
    split <;> omega
  clear hE
  generalize mx fr r.start = a at ha ⊢
  generalize r.nodes * r.cores = q at p1 p2 p3 ⊢
  rw [w64 (x := E - a) ⟨by omega, by omega⟩]
  constructor
  · have hm : 0 ≤ mx (E - a) 0 ∧ mx (E - a) 0 ≤ 2199023255552 := by
      unfold mx
      split <;> omega
    exact amount_w hm.1 hm.2 p1 p2
  · intro hlt
    have : mx (E - a) 0 = E - a := by unfold mx; split <;> omega
    rw [this]
    exact amount_w (by omega) (by omega) p1 p2
theorem usedP_i (r : RunT) (a b : Int) : i64 (usedP r a b) := usedP_i64 r a b
theorem used_loop (l : List S36) (hl : l.length < 400000) (ho : OkP (l.map pastS)) (acc : ByteArray) (ids : List Int) (hids : ids.length < 400000) (fr tt : Int) (h1 : 0 ≤ fr) (h2 : fr ≤ 2199023255552) (h3 : 0 ≤ tt) (h4 : tt ≤ 2199023255552) :
    ∀ (d i k : Nat) (out : List Int), i ≤ ids.length → ids.length - i ≤ d → 3 * d + l.length + ids.length + 10 < k → out.length ≤ i → (∀ x ∈ out, i64 x) →
    musterref27_Used.l0 k l acc fr tt ids out (i : Int) = some ((sumP 0 (out ++ (ids.drop i).flatMap (refG (l.map pastS) acc fr tt))).1, (sumP 0 (out ++ (ids.drop i).flatMap (refG (l.map pastS) acc fr tt))).2, 0)
  | d, i, k, out, a1, a2, a3, a4, a5 => by
    obtain ⟨k, rfl⟩ : ∃ m, k = m + 3 := ⟨k - 3, by omega⟩
    by_cases hi : i < ids.length
    · obtain ⟨d, rfl⟩ : ∃ m, d = m + 1 := ⟨d - 1, by omega⟩
      have e : ids.drop i = ids[i] :: ids.drop (i + 1) := List.drop_eq_getElem_cons hi
      have eg : ids.getD i 0 = ids[i] := by simp [List.getD_eq_getElem?_getD, hi]
      simp only [musterref27_Used.l0]
      rw [if_pos (by omega), if_pos (by omega), rd_nat, eg, ref_run l (by omega) ho ids[i] (k + 2) (by omega), e, List.flatMap_cons, ← List.append_assoc]
      simp only [Option.bind_some, runT, ba_nil, ba_iff]
      have ih : ∀ (m : Nat) (out' : List Int), out'.length ≤ i + 1 → (∀ x ∈ out', i64 x) → 3 * d + l.length + ids.length + 10 < m → musterref27_Used.l0 m l acc fr tt ids out' ((i + 1 : Nat) : Int) = some ((sumP 0 (out' ++ (ids.drop (i + 1)).flatMap (refG (l.map pastS) acc fr tt))).1, (sumP 0 (out' ++ (ids.drop (i + 1)).flatMap (refG (l.map pastS) acc fr tt))).2, 0) := fun m out' h hx hm => used_loop l hl ho acc ids hids fr tt h1 h2 h3 h4 d (i + 1) m out' (by omega) (by omega) hm h hx
      have hok := run_ok ho ids[i]
      generalize (ids.drop (i + 1)).flatMap (refG (l.map pastS) acc fr tt) = TL at ih ⊢
      unfold refG isOf
      generalize runP (l.map pastS) ids[i] = r at hok ⊢
      -- an account's run that has started
      have go : musterref27_Used.j2 (k + 2) l acc fr tt ids out (i : Int) (decide (r.start < 0)) r.id r.acc r.usr r.nodes r.cores r.st r.sub r.start r.stop =
          some ((sumP 0 (out ++ (if ¬ r.start < 0 then (if mx fr r.start < (if r.stop ≥ 0 then mn tt r.stop else tt) then [usedP r fr tt] else []) else []) ++ TL)).1,
            (sumP 0 (out ++ (if ¬ r.start < 0 then (if mx fr r.start < (if r.stop ≥ 0 then mn tt r.stop else tt) then [usedP r fr tt] else []) else []) ++ TL)).2, 0) := by
        simp only [musterref27_Used.j2]
        rw [wrap_succ i (by omega)]
        by_cases hs : r.start < 0
        · rw [decide_eq_true hs, if_pos rfl, if_neg (by simpa using hs), List.append_nil]
          exact ih _ out (by omega) a5 (by omega)
        · rw [decide_eq_false hs, if_neg (by simp), if_pos hs]
          have hpush := fun (E : Int) hE => (push_val hok h1 h2 h3 h4 hs (E := E) hE).2
          have j3 : ∀ (b : Bool) (E : Int), (E = if b = true then r.stop else tt) → E = (if r.stop ≥ 0 then mn tt r.stop else tt) → musterref27_Used.j3 (k + 1) l acc fr tt ids out (i : Int) (mx fr r.start) tt b r.id r.acc r.usr r.nodes r.cores r.st r.sub r.start r.stop =
              some ((sumP 0 (out ++ (if mx fr r.start < (if r.stop ≥ 0 then mn tt r.stop else tt) then [usedP r fr tt] else []) ++ TL)).1,
                (sumP 0 (out ++ (if mx fr r.start < (if r.stop ≥ 0 then mn tt r.stop else tt) then [usedP r fr tt] else []) ++ TL)).2, 0) := by
            intro b E hb hE
            simp only [musterref27_Used.j3]
            rw [wrap_succ i (by omega), ← hE]
            have hp := hpush E hE
            have done : ∀ c : Prop, [Decidable c] → (c ↔ mx fr r.start < E) → (if c then (if out.length < 17592186044416 then musterref27_Used.l0 k l acc fr tt ids (out ++ [wrap64 (wrap64 (E - mx fr r.start) * wrap64 (r.nodes * r.cores))]) ((i + 1 : Nat) : Int) else none) else musterref27_Used.l0 k l acc fr tt ids out ((i + 1 : Nat) : Int)) =
                some ((sumP 0 (out ++ (if mx fr r.start < E then [usedP r fr tt] else []) ++ TL)).1, (sumP 0 (out ++ (if mx fr r.start < E then [usedP r fr tt] else []) ++ TL)).2, 0) := by
              intro c _ hc
              by_cases hlt : mx fr r.start < E
              · rw [if_pos (hc.2 hlt), if_pos (by omega), if_pos hlt, hp hlt]
                exact ih _ _ (by simp; omega) (fun x hx => by rcases List.mem_append.1 hx with hx | hx; exact a5 x hx; rw [List.mem_singleton.1 hx]; exact usedP_i _ _ _) (by omega)
              · rw [if_neg (fun h => hlt (hc.1 h)), if_neg hlt, List.append_nil]
                exact ih _ out (by omega) a5 (by omega)
            cases b with
            | true =>
              rw [if_pos rfl] at hb
              subst hb
              rw [if_pos rfl]
              exact done _ Iff.rfl
            | false =>
              rw [if_neg (by simp)] at hb
              subst hb
              rw [if_neg (by simp)]
              exact done _ Iff.rfl
          by_cases hst : r.stop ≥ 0
          · rw [if_pos hst]
            refine j3 _ (if r.stop < tt then r.stop else tt) ?_ ?_
            · by_cases hh : r.stop < tt <;> simp [hh]
            · rw [if_pos hst]
              unfold mn
              repeat' split
              all_goals omega
          · rw [if_neg hst]
            refine j3 _ tt (by simp) (by rw [if_neg hst])
      by_cases c1 : acc = ByteArray.empty
      · rw [if_pos c1, decide_eq_true c1, Bool.true_or]
        simp only [true_and]
        exact go
      · rw [if_neg c1, decide_eq_false c1, Bool.false_or]
        by_cases c2 : r.acc = acc
        · rw [if_pos c2, decide_eq_true c2]
          simp only [true_and]
          exact go
        · rw [if_neg c2, decide_eq_false c2, if_neg (by simp), List.append_nil]
          simp only [musterref27_Used.j2]
          rw [if_pos trivial, wrap_succ i (by omega)]
          exact ih _ out (by omega) a5 (by omega)
    · simp only [musterref27_Used.l0]
      rw [if_neg (by omega), List.drop_of_length_le (by omega), List.flatMap_nil, List.append_nil, ref_sum_spec out (by omega) a5 (k + 2) (by omega)]
      rfl
theorem ref_used (l : List S36) (hl : l.length < 400000) (ho : OkP (l.map pastS)) (acc : ByteArray) (fr tt : Int) (h1 : 0 ≤ fr) (h2 : fr ≤ tt) (h3 : tt ≤ 1099511627776) (K : Nat) (hK : ∀ k, K ≤ k → musterref27_ids.f k l = some (idsP (l.map pastS))) (k : Nat) (hk : K + 5 * l.length + 20 < k) :
    musterref27_Used.f k l acc fr tt = some ((totalP (l.map pastS) (idsP (l.map pastS)) acc fr tt).1, (totalP (l.map pastS) (idsP (l.map pastS)) acc fr tt).2, 0) := by
  have hlen := idsP_len (l.map pastS)
  rw [List.length_map] at hlen
  obtain ⟨k, rfl⟩ : ∃ m, k = m + 1 := ⟨k - 1, by omega⟩
  unfold musterref27_Used.f
  rw [if_neg (by omega), if_neg (by omega), decide_eq_false (by omega)]
  simp only [musterref27_Used.j0]
  rw [if_neg (by simp), hK k (by omega)]
  simp only [Option.bind_some]
  have := used_loop l hl ho acc (idsP (l.map pastS)) (by omega) fr tt h1 (by omega) (by omega) (by omega) _ 0 k [] (by omega) (Nat.le_refl _) (by omega) (by simp) (by simp)
  rw [List.nil_append, List.drop_zero, (totalP_ref ho acc _ h1 (by omega) (by omega) (by omega)).1] at this
  exact this
theorem ref_used_wrong (l : List S36) (acc : ByteArray) (fr tt : Int) (h : ¬ (0 ≤ fr ∧ fr ≤ tt ∧ tt ≤ 1099511627776)) (k : Nat) (hk : 0 < k) : musterref27_Used.f k l acc fr tt = some (0, false, 2) := by
  obtain ⟨k, rfl⟩ : ∃ m, k = m + 1 := ⟨k - 1, by omega⟩
  have j : musterref27_Used.j0 (k + 1) l acc fr tt true = some (0, false, 2) := by simp only [musterref27_Used.j0]; rfl
  unfold musterref27_Used.f
  by_cases c1 : fr < 0
  · rw [if_pos c1]; exact j
  · rw [if_neg c1]
    by_cases c2 : fr > tt
    · rw [if_pos c2]; exact j
    · rw [if_neg c2, decide_eq_true (by omega)]; exact j
/-! ### beyond -/
theorem beyond_loop (l : List S36) (hl : l.length < 400000) (ho : OkP (l.map pastS)) (acc : ByteArray) (ids : List Int) (hids : ids.length < 400000) (fr tt : Int) (h1 : 0 ≤ fr) (h2 : fr ≤ 2199023255552) (h3 : 0 ≤ tt) (h4 : tt ≤ 2199023255552) :
    ∀ (d i k : Nat) (out : List Int), i ≤ ids.length → ids.length - i ≤ d → 2 * d + l.length + ids.length + 10 < k → out.length ≤ i → (∀ x ∈ out, i64 x) →
    musterref27_beyond.l0 k l acc fr tt ids out (i : Int) = some ((sumP 0 (out ++ (ids.drop i).flatMap (refH (l.map pastS) acc fr tt))).1, (sumP 0 (out ++ (ids.drop i).flatMap (refH (l.map pastS) acc fr tt))).2)
  | d, i, k, out, a1, a2, a3, a4, a5 => by
    obtain ⟨k, rfl⟩ : ∃ m, k = m + 2 := ⟨k - 2, by omega⟩
    by_cases hi : i < ids.length
    · obtain ⟨d, rfl⟩ : ∃ m, d = m + 1 := ⟨d - 1, by omega⟩
      have e : ids.drop i = ids[i] :: ids.drop (i + 1) := List.drop_eq_getElem_cons hi
      have eg : ids.getD i 0 = ids[i] := by simp [List.getD_eq_getElem?_getD, hi]
      simp only [musterref27_beyond.l0]
      rw [if_pos (by omega), if_pos (by omega), rd_nat, eg, ref_run l (by omega) ho ids[i] (k + 1) (by omega), e, List.flatMap_cons, ← List.append_assoc]
      simp only [Option.bind_some, runT, ba_nil, ba_iff]
      have ih : ∀ (m : Nat) (out' : List Int), out'.length ≤ i + 1 → (∀ x ∈ out', i64 x) → 2 * d + l.length + ids.length + 10 < m → musterref27_beyond.l0 m l acc fr tt ids out' ((i + 1 : Nat) : Int) = some ((sumP 0 (out' ++ (ids.drop (i + 1)).flatMap (refH (l.map pastS) acc fr tt))).1, (sumP 0 (out' ++ (ids.drop (i + 1)).flatMap (refH (l.map pastS) acc fr tt))).2) := fun m out' h hx hm => beyond_loop l hl ho acc ids hids fr tt h1 h2 h3 h4 d (i + 1) m out' (by omega) (by omega) hm h hx
      have hok := run_ok ho ids[i]
      generalize (ids.drop (i + 1)).flatMap (refH (l.map pastS) acc fr tt) = TL at ih ⊢
      unfold refH isOf
      generalize runP (l.map pastS) ids[i] = r at hok ⊢
      have go : musterref27_beyond.j1 (k + 1) l acc fr tt ids out (i : Int) (decide (r.start < 0)) r.id r.acc r.usr r.nodes r.cores r.st r.sub r.start r.stop =
          some ((sumP 0 (out ++ (if ¬ r.start < 0 then [usedP r fr tt] else []) ++ TL)).1, (sumP 0 (out ++ (if ¬ r.start < 0 then [usedP r fr tt] else []) ++ TL)).2) := by
        simp only [musterref27_beyond.j1]
        rw [wrap_succ i (by omega)]
        by_cases hs : r.start < 0
        · rw [decide_eq_true hs, if_pos rfl, if_neg (by simpa using hs), List.append_nil]
          exact ih _ out (by omega) a5 (by omega)
        · rw [decide_eq_false hs, if_neg (by simp), if_pos hs]
          have hpush := fun (E : Int) hE => (push_val hok h1 h2 h3 h4 hs (E := E) hE).1
          have nx : ∀ v, v = usedP r fr tt → musterref27_beyond.l0 k l acc fr tt ids (out ++ [v]) ((i + 1 : Nat) : Int) = some ((sumP 0 (out ++ [usedP r fr tt] ++ TL)).1, (sumP 0 (out ++ [usedP r fr tt] ++ TL)).2) := by
            rintro v rfl
            exact ih _ _ (by simp; omega) (fun x hx => by rcases List.mem_append.1 hx with hx | hx; exact a5 x hx; rw [List.mem_singleton.1 hx]; exact usedP_i _ _ _) (by omega)
          by_cases hst : r.stop ≥ 0
          · rw [if_pos hst, if_pos (by omega)]
            exact nx _ (hpush _ (by rw [if_pos hst]))
          · rw [if_neg hst, if_pos (by omega)]
            exact nx _ (hpush _ (by rw [if_neg hst]))
      by_cases c1 : acc = ByteArray.empty
      · rw [if_pos c1, decide_eq_true c1, Bool.true_or]
        simp only [true_and]
        exact go
      · rw [if_neg c1, decide_eq_false c1, Bool.false_or]
        by_cases c2 : r.acc = acc
        · rw [if_pos c2, decide_eq_true c2]
          simp only [true_and]
          exact go
        · rw [if_neg c2, decide_eq_false c2, if_neg (by simp), List.append_nil]
          simp only [musterref27_beyond.j1]
          rw [if_pos trivial, wrap_succ i (by omega)]
          exact ih _ out (by omega) a5 (by omega)
    · simp only [musterref27_beyond.l0]
      rw [if_neg (by omega), List.drop_of_length_le (by omega), List.flatMap_nil, List.append_nil, ref_sum_spec out (by omega) a5 (k + 1) (by omega)]
      rfl
theorem ref_beyond (l : List S36) (hl : l.length < 400000) (ho : OkP (l.map pastS)) (acc : ByteArray) (fr tt : Int) (h1 : 0 ≤ fr) (h2 : fr ≤ 2199023255552) (h3 : 0 ≤ tt) (h4 : tt ≤ 2199023255552) (K : Nat) (hK : ∀ k, K ≤ k → musterref27_ids.f k l = some (idsP (l.map pastS))) (k : Nat) (hk : K + 5 * l.length + 20 < k) :
    musterref27_beyond.f k l acc fr tt = some ((totalP (l.map pastS) (idsP (l.map pastS)) acc fr tt).1, (totalP (l.map pastS) (idsP (l.map pastS)) acc fr tt).2) := by
  have hlen := idsP_len (l.map pastS)
  rw [List.length_map] at hlen
  unfold musterref27_beyond.f
  rw [hK k (by omega)]
  simp only [Option.bind_some]
  have := beyond_loop l hl ho acc (idsP (l.map pastS)) (by omega) fr tt h1 h2 h3 h4 _ 0 k [] (by omega) (Nat.le_refl _) (by omega) (by simp) (by simp)
  rw [List.nil_append, List.drop_zero, (totalP_ref ho acc _ h1 h2 h3 h4).2] at this
  exact this
end Go.Proofs.Ytinpgejkkfpckaa.Pr
end
section
namespace Go.Proofs.Ytinpgejkkfpckaa.Pr
open Go.RowKit Go.Proofs.YtinpgejkkfpckaaW.PrintWords
set_option linter.unusedVariables false
set_option linter.unusedSimpArgs false
theorem roll_num {fr tt span : Int} (hsp : span = 3600 ∨ span = 86400) (h1 : 0 ≤ fr) (h2 : fr < tt) (h3 : tt ≤ 1099511627776) (j : Nat) :
    ((fr / span + j) * span < tt ↔ j < rollN fr tt span) ∧ 0 ≤ fr / span ∧ (j ≤ rollN fr tt span → 0 ≤ (fr / span + j) * span ∧ (fr / span + j) * span ≤ 1099511714176 ∧ fr / span + j ≤ 305419897 + 86400) ∧ (fr / span + (j : Int) + 1) * span = (fr / span + j) * span + span := by
  unfold rollN
  rw [if_neg (by omega)]
  rcases hsp with rfl | rfl
  · refine ⟨?_, by omega, fun h => ⟨by omega, by omega, by omega⟩, by omega⟩
    omega
  · refine ⟨?_, by omega, fun h => ⟨by omega, by omega, by omega⟩, by omega⟩
    omega
theorem roll_loop (l : List S36) (hl : l.length < 400000) (ho : OkP (l.map pastS)) (acc : ByteArray) (fr tt span : Int) (hsp : span = 3600 ∨ span = 86400) (h1 : 0 ≤ fr) (h2 : fr < tt) (h3 : tt ≤ 1099511627776) (K : Nat) (hK : ∀ k, K ≤ k → musterref27_ids.f k l = some (idsP (l.map pastS))) :
    ∀ (d j k : Nat), j ≤ rollN fr tt span → j ≤ 1000 → rollN fr tt span - j ≤ d → 2 * d + K + 5 * l.length + 40 < k →
    musterref27_Rollup.l0 k l acc fr tt span (rollL (totalP (l.map pastS) (idsP (l.map pastS)) acc) span (fr / span) j).1 (rollL (totalP (l.map pastS) (idsP (l.map pastS)) acc) span (fr / span) j).2 (fr / span + j) =
      some (if 1000 < rollN fr tt span then ([], false, 3) else ((rollL (totalP (l.map pastS) (idsP (l.map pastS)) acc) span (fr / span) (rollN fr tt span)).1, (rollL (totalP (l.map pastS) (idsP (l.map pastS)) acc) span (fr / span) (rollN fr tt span)).2, 0))
  | d, j, k, a1, a2, a3, a4 => by
    obtain ⟨k, rfl⟩ : ∃ m, k = m + 2 := ⟨k - 2, by omega⟩
    obtain ⟨n1, n2, n3, n4⟩ := roll_num hsp h1 h2 h3 j
    obtain ⟨n5, n6, n7⟩ := n3 a1
    have hsb : 3600 ≤ span ∧ span ≤ 86400 := by omega
    simp only [musterref27_Rollup.l0]
    rw [if_pos h2, w64 (x := (fr / span + j) * span) ⟨by omega, by omega⟩]
    by_cases hj : j < rollN fr tt span
    · obtain ⟨d, rfl⟩ : ∃ m, d = m + 1 := ⟨d - 1, by omega⟩
      rw [decide_eq_true (n1.2 hj)]
      simp only [musterref27_Rollup.j2]
      rw [if_pos trivial, rollL_len]
      by_cases hk : j = 1000
      · subst hk
        rw [if_pos (by omega), if_pos hj]
      · rw [if_neg (by omega)]
        have hlt := n1.2 hj
        have ih := roll_loop l hl ho acc fr tt span hsp h1 h2 h3 K hK d (j + 1) k (by omega) (by omega) (by omega) (by omega)
        have hq1 : wrap64 (fr / span + (j : Int) + 1) = fr / span + (j : Int) + 1 := w64 ⟨by omega, by omega⟩
        have hq2 : wrap64 ((fr / span + (j : Int) + 1) * span) = (fr / span + (j : Int) + 1) * span := w64 ⟨by rw [n4]; omega, by rw [n4]; omega⟩
        rw [w64 (x := (fr / span + j) * span) ⟨by omega, by omega⟩, hq1, hq2]
        have hcast : fr / span + ((j + 1 : Nat) : Int) = fr / span + (j : Int) + 1 := by omega
        rw [hcast] at ih
        have hm : 0 ≤ (fr / span + (j : Int)) * span ∧ (fr / span + (j : Int)) * span ≤ mn ((fr / span + (j : Int) + 1) * span) 1099511627776 ∧ mn ((fr / span + (j : Int) + 1) * span) 1099511627776 ≤ 1099511627776 := by
          rw [n4]
          unfold mn
          split <;> omega
        rw [ref_used l hl ho acc _ _ hm.1 hm.2.1 hm.2.2 K hK k (by omega)]
        simp only [Option.bind_some]
        -- both ways the same sum is told
        obtain ⟨s, hs⟩ : ∃ s, totalP (l.map pastS) (idsP (l.map pastS)) acc (span * (fr / span + j)) (span * (fr / span + j + 1)) = s := ⟨_, rfl⟩
        have e1 : (rollL (totalP (l.map pastS) (idsP (l.map pastS)) acc) span (fr / span) (j + 1)).1 = (rollL (totalP (l.map pastS) (idsP (l.map pastS)) acc) span (fr / span) j).1 ++ [s.1] := by simp only [rollL, hs]
        have e2 : (rollL (totalP (l.map pastS) (idsP (l.map pastS)) acc) span (fr / span) (j + 1)).2 = ((rollL (totalP (l.map pastS) (idsP (l.map pastS)) acc) span (fr / span) j).2 || s.2) := by simp only [rollL, hs]
        rw [e1, e2] at ih
        have fin : ∀ b : Bool, (if b = true then musterref27_Rollup.l0 k l acc fr tt span ((rollL (totalP (l.map pastS) (idsP (l.map pastS)) acc) span (fr / span) j).1 ++ [s.1]) true (fr / span + (j : Int) + 1) else musterref27_Rollup.l0 k l acc fr tt span ((rollL (totalP (l.map pastS) (idsP (l.map pastS)) acc) span (fr / span) j).1 ++ [s.1]) s.2 (fr / span + (j : Int) + 1)) =
            musterref27_Rollup.l0 k l acc fr tt span ((rollL (totalP (l.map pastS) (idsP (l.map pastS)) acc) span (fr / span) j).1 ++ [s.1]) (b || s.2) (fr / span + (j : Int) + 1) := by
          intro b
          cases b <;> simp
        by_cases hbig : (fr / span + (j : Int) + 1) * span > 1099511627776
        · rw [if_pos hbig, ref_beyond l hl ho acc _ _ n5 (by omega) (by omega) (by rw [n4]; omega) K hK k (by omega)]
          simp only [Option.bind_some]
          rw [if_pos (by omega), Int.mul_comm (fr / span + (j : Int)) span, Int.mul_comm (fr / span + (j : Int) + 1) span, hs, fin]
          exact ih
        · have hmn : mn ((fr / span + (j : Int) + 1) * span) 1099511627776 = (fr / span + (j : Int) + 1) * span := by
            unfold mn
            split <;> omega
          rw [if_neg hbig, if_pos (by omega), hmn, Int.mul_comm (fr / span + (j : Int)) span, Int.mul_comm (fr / span + (j : Int) + 1) span, hs, fin]
          exact ih
    · have hjn : j = rollN fr tt span := by omega
      rw [decide_eq_false (fun h => hj (n1.1 h))]
      simp only [musterref27_Rollup.j2]
      rw [if_neg (by simp), if_neg (by omega), ← hjn]
theorem ref_rollup (l : List S36) (hl : l.length < 400000) (ho : OkP (l.map pastS)) (acc : ByteArray) (fr tt span : Int) (hsp : span = 3600 ∨ span = 86400) : Ev (fun k => musterref27_Rollup.f k l acc fr tt span) (rollR (l.map pastS) (idsP (l.map pastS)) acc fr tt span) := by
  obtain ⟨K, hK0⟩ := ids_ev l (by omega)
  have hK : ∀ k, K ≤ k → musterref27_ids.f k l = some (idsP (l.map pastS)) := hK0
  refine ⟨2 * rollN fr tt span + K + 5 * l.length + 50, fun k hk => ?_⟩
  obtain ⟨k, rfl⟩ : ∃ m, k = m + 2 := ⟨k - 2, by omega⟩
  show musterref27_Rollup.f (k + 2) l acc fr tt span = _
  by_cases hw : wrongP fr tt = 0
  · have hwr : 0 ≤ fr ∧ fr ≤ tt ∧ tt ≤ 1099511627776 := by
      unfold wrongP at hw
      split at hw
      · cases hw
      · omega
    obtain ⟨g1, g2, g3⟩ := hwr
    unfold rollR musterref27_Rollup.f
    rw [if_pos hw, if_neg (by omega), if_neg (by omega), decide_eq_false (by omega)]
    simp only [musterref27_Rollup.j0]
    rw [if_neg (by simp), if_neg (by omega), quo1 hsp g1 (by omega)]
    by_cases heq : fr = tt
    · have hn : rollN fr tt span = 0 := by unfold rollN; rw [if_pos heq]
      rw [hn, if_neg (by omega)]
      simp only [musterref27_Rollup.l0]
      rw [if_neg (by omega)]
      obtain ⟨k, rfl⟩ : ∃ m, k = m + 1 := ⟨k - 1, by omega⟩
      simp only [musterref27_Rollup.j2]
      rfl
    · have := roll_loop l hl ho acc fr tt span hsp g1 (by omega) g3 K hK (rollN fr tt span) 0 (k + 1) (by omega) (by omega) (by omega) (by omega)
      rw [show fr / span + ((0 : Nat) : Int) = fr / span by omega] at this
      exact this
  · have hq : wrongP fr tt = 2 := by
      unfold wrongP at hw ⊢
      split
      · rfl
      · rename_i h; rw [if_neg h] at hw; exact absurd rfl hw
    have hn : ¬ (0 ≤ fr ∧ fr ≤ tt ∧ tt ≤ 1099511627776) := by
      unfold wrongP at hw
      intro h
      rw [if_neg (by omega)] at hw
      exact hw rfl
    have j : musterref27_Rollup.j0 (k + 2) l acc fr tt span true = some ([], false, 2) := by simp only [musterref27_Rollup.j0]; rfl
    unfold rollR musterref27_Rollup.f
    rw [if_neg hw, hq]
    by_cases c1 : fr < 0
    · rw [if_pos c1]; exact j
    · rw [if_neg c1]
      by_cases c2 : fr > tt
      · rw [if_pos c2]; exact j
      · rw [if_neg c2, decide_eq_true (by omega)]; exact j
/-- What the document's Used tells. -/
theorem ref_used_ev (l : List S36) (hl : l.length < 400000) (ho : OkP (l.map pastS)) (acc : ByteArray) (fr tt : Int) :
    Ev (fun k => musterref27_Used.f k l acc fr tt) (if wrongP fr tt = 0 then ((totalP (l.map pastS) (idsP (l.map pastS)) acc fr tt).1, (totalP (l.map pastS) (idsP (l.map pastS)) acc fr tt).2, 0) else (0, false, wrongP fr tt)) := by
  obtain ⟨K, hK0⟩ := ids_ev l (by omega)
  have hK : ∀ k, K ≤ k → musterref27_ids.f k l = some (idsP (l.map pastS)) := hK0
  refine ⟨K + 5 * l.length + 50, fun k hk => ?_⟩
  show musterref27_Used.f k l acc fr tt = _
  by_cases hw : fr < 0 ∨ fr > tt ∨ tt > 1099511627776
  · have e : wrongP fr tt = 2 := if_pos hw
    rw [e, if_neg (by decide)]
    exact ref_used_wrong l acc fr tt (by omega) k (by omega)
  · have e : wrongP fr tt = 0 := if_neg hw
    rw [if_pos e]
    exact ref_used l hl ho acc fr tt (by omega) (by omega) (by omega) K hK k (by omega)
end Go.Proofs.Ytinpgejkkfpckaa.Pr
end
section
namespace Go.Proofs.Ytinpgejkkfpckaa.Pr
open Go.RowKit Go.Proofs.YtinpgejkkfpckaaW.PrintWords Go.Proofs.YtinpgejkkfpckaaW.PrintLast Go.Proofs.YtinpgejkkfpckaaW.PrintMore Go.Proofs.YtinpgejkkfpckaaG
set_option linter.unusedVariables false
set_option linter.unusedSimpArgs false
/-- The events that are known behind a Take, told by the document's list. -/
def playU (u : List S36) (x : S36) : List S36 := if (takeT (u.map pastS) (idsP (u.map pastS)) (pastS x)).1 = true then u ++ [x] else u
def RefTakeIs (w : World) (base : Nat) (ok : Nat → Prop) (u : List S36) (t : Bool × Int) (n : List S36) (e : Ending) (w' : World) : Prop :=
  ∃ v0, e = .returned (.tuple #[v0, .bool t.1, .int .i64 t.2]) ∧ Kd.R k36 36 w' base (fun k => ok k ∨ w.heap.size ≤ k) v0 n ∧ Below w.heap.size w w'
set_option maxRecDepth 100000 in
set_option maxHeartbeats 4000000 in
theorem reftake_any (base : Nat) (ok : Nat → Prop) (v : Value) (u : List S36) (x : S36) (w : World) (hu : u.length < 4000) (hR : Kd.R k36 36 w base ok v u) (hb : base ≤ w.heap.size) :
    Calls Try.prog 30 #[v, .agg #[.int .i64 x.f0, .int .u8 x.f1, .int .i64 x.f2, .string x.f3, .string x.f4, .int .i64 x.f5, .int .i64 x.f6, .int .u8 x.f7]] w
      (RefTakeIs w base ok u ((takeT (u.map pastS) (idsP (u.map pastS)) (pastS x)).1, (takeT (u.map pastS) (idsP (u.map pastS)) (pastS x)).2.1) (playU u x)) := by
  have hu36 := Try.underlying36
  obtain ⟨A, c, rfl, hc, hC⟩ := Kd.R_reads hR
  have HR := hd hR
  have HC := hd hC
  have HCC := hd hc
  clear hR hC hc
  have HB0 := hd (below_alloc (Below.refl _ w) (.cells #[.int .i64 x.f0, .int .u8 x.f1, .int .i64 x.f2, .string x.f3, .string x.f4, .int .i64 x.f5, .int .i64 x.f6, .int .u8 x.f7] 36))
  have HBX0 := hd (blk_new w (.cells #[.int .i64 x.f0, .int .u8 x.f1, .int .i64 x.f2, .string x.f3, .string x.f4, .int .i64 x.f5, .int .i64 x.f6, .int .u8 x.f7] 36))
  unfold RefTakeIs
  go_enter Try.func30, Try.ntmps30
  go_wp2_with fail
  refine (musterref27_Right.calls 2 x.f0 x.f1 x.f2 x.f3 x.f4 x.f5 x.f6 x.f7 _ _ (ref_right _ _ _ _ _ _ _ _ 2 (Nat.le_refl _))).mono ?_
  rintro e w1 ⟨rfl, b1⟩
  have HB1 : Hd (Below w.heap.size w w1) := hd (below_then HB0.out HB0.out.size b1)
  have HBX1 := hd (blk_below HBX0.out b1)
  clear b1 HB0 HBX0
  obtain ⟨rb, hrb⟩ : ∃ b, rightP x.f0 x.f1 x.f2 x.f3 x.f4 x.f5 x.f6 x.f7 = b := ⟨_, rfl⟩
  have HRB : Hd (rightPast (pastS x) = rb) := hd hrb
  rw [hrb]
  clear hrb
  cases rb with
  | false =>
    have ht : takeT (u.map pastS) (idsP (u.map pastS)) (pastS x) = (false, 2, u.map pastS, idsP (u.map pastS)) := by unfold takeT; rw [HRB.out]; rfl
    have HE : Hd (playU u x = u) := hd (by unfold playU; rw [ht]; rfl)
    have HT := hd ht
    clear ht
    go_wp2
    refine bodyPost_ret (results_list (rs := [.tmp 4, .tmp 5, .tmp 6]) rfl (by simp) (.tmp (.tmp (.tmp .nil)))) rfl ?_
    rw [HE.out, HT.out]
    exact ⟨_, rfl, Kd.R_mono (Kd.R_below HR.out HB1.out) (fun _ h => .inl h), HB1.out⟩
  | true =>
    have r0 := (blk_cell HBX1.out 0).trans rfl
    have r1 := (blk_cell HBX1.out 1).trans rfl
    go_wp2_with fail
    refine (musterref27_find.calls (u.length + 1) A c u x.f0 x.f1 _ _ _ _ _ _ _ _ _ w1 (Kd.C_below HC.out HB1.out) HCC.out (find_spec u (by omega) x.f0 x.f1 (u.length + 1) (by omega))).mono ?_
    rintro e w2 ⟨rfl, b2⟩
    have HB2 : Hd (Below w.heap.size w w2) := hd (below_then HB1.out HB1.out.size b2)
    have HBX2 := hd (blk_below HBX1.out b2)
    clear b2 r0 r1 HB1 HBX1
    obtain ⟨q, hq⟩ : ∃ q, (getP (u.map pastS) x.f0 x.f1).getD zeroPast = q := ⟨_, rfl⟩
    obtain ⟨fb, hfb⟩ : ∃ b, (getP (u.map pastS) x.f0 x.f1).isSome = b := ⟨_, rfl⟩
    simp only [foundT, pastT, hq, hfb]
    have HFB : Hd ((getP (u.map pastS) (pastS x).id (pastS x).what).isSome = fb) := hd hfb
    clear hq hfb
    have HB3 : Hd (Below w.heap.size w (w2.alloc (.cells #[.int .i64 q.id, .int .u8 q.what, .int .i64 q.at_, .string q.acc, .string q.usr, .int .i64 q.nodes, .int .i64 q.cores, .int .u8 q.st] 36))) := hd (below_alloc HB2.out _)
    have HBX3 := hd (blk_alloc HBX2.out (.cells #[.int .i64 q.id, .int .u8 q.what, .int .i64 q.at_, .string q.acc, .string q.usr, .int .i64 q.nodes, .int .i64 q.cores, .int .u8 q.st] 36))
    cases fb with
    | true =>
      have ht : takeT (u.map pastS) (idsP (u.map pastS)) (pastS x) = (false, 0, u.map pastS, idsP (u.map pastS)) := by unfold takeT; rw [HRB.out, HFB.out]; rfl
      have HE : Hd (playU u x = u) := hd (by unfold playU; rw [ht]; rfl)
      have HT := hd ht
      clear ht
      go_wp2
      refine bodyPost_ret (results_list (rs := [.tmp 4, .tmp 5, .tmp 6]) rfl (by simp) (.tmp (.tmp (.tmp .nil)))) rfl ?_
      rw [HE.out, HT.out]
      exact ⟨_, rfl, Kd.R_mono (Kd.R_below HR.out HB3.out) (fun _ h => .inl h), HB3.out⟩
    | false =>
      have hlen := idsP_len (u.map pastS)
      rw [List.length_map] at hlen
      have ht : (takeT (u.map pastS) (idsP (u.map pastS)) (pastS x)).1 = true ∧ (takeT (u.map pastS) (idsP (u.map pastS)) (pastS x)).2.1 = 0 := by
        unfold takeT
        rw [HRB.out, HFB.out, if_pos rfl, if_neg (by simp)]
        split
        · exact ⟨rfl, rfl⟩
        · rw [if_neg (by omega)]; exact ⟨rfl, rfl⟩
      have HE : Hd (playU u x = u ++ [x]) := hd (by unfold playU; rw [ht.1]; rfl)
      have HT := hd ht
      clear ht
      obtain ⟨K, hK⟩ := ids_ev u (by omega)
      have HK : Hd (musterref27_ids.f K u = some (idsP (u.map pastS))) := hd (hK K (Nat.le_refl _))
      clear hK
      go_wp2_with fail
      refine (musterref27_ids.calls K A c u _ _ (Kd.C_below HC.out HB3.out) HCC.out HK.out).mono ?_
      rintro e w4 ⟨vi, rfl, hRi, b4⟩
      obtain ⟨Ai, ci, rfl⟩ := Kd.R_slice hRi
      have HB4 : Hd (Below w.heap.size w w4) := hd (below_then HB3.out HB3.out.size b4)
      have HBX4 := hd (blk_below HBX3.out b4)
      clear b4 hRi HB3 HBX3 HB2 HBX2
      have h40 : ¬ (4096 : Int) ≤ ((idsP (u.map pastS)).length : Int) := by omega
      have HC4 := hd (Kd.C_below HC.out HB4.out)
      go_wp2_with (first
        | ((with_reducible refine gate_builtin (b := .append) (xs := #[.tmp 52, .tmp 53]) rfl ?_); at_builtin; refine Kd.R_append_rows k36 (w0 := w) w.heap.size rfl (.tmp 52) (.tmp 53) 31 36 (.agg #[(.int .i64 0), (.int .u8 0), (.int .i64 0), (.string ⟨#[]⟩), (.string ⟨#[]⟩), (.int .i64 0), (.int .i64 0), (.int .u8 0)]) 80 rfl Try.underlying31 info36 rfl (by decide) (by omega) (.slice none 0 0) ([] : List (S36)) u _ _ _ (fun k => w.heap.size ≤ k) (fun _ => False) rfl rfl (Kd.R_nil _ _ _ _ _) HC4.out (fun _ _ h => h) (fun _ h => h.elim) (fun k hk => Nat.le_trans HB4.out.size hk) HB4.out HB4.out.size ?aL ?_; (case aL => simp; omega);intro v1 w5 hv1 hb5 hg5 hat5; have HBX5 := hd (blk_grown HBX4.out hg5 (by simp [Value.ownBlock])); have HV1 := hd hv1; have HB5 := hd hb5; clear hv1 hb5 hg5 hat5; rw [List.nil_append] at HV1; have l0 := (blk_cell HBX5.out 0).trans rfl; have l1 := (blk_cell HBX5.out 1).trans rfl; have l2 := (blk_cell HBX5.out 2).trans rfl; have l3 := (blk_cell HBX5.out 3).trans rfl; have l4 := (blk_cell HBX5.out 4).trans rfl; have l5 := (blk_cell HBX5.out 5).trans rfl; have l6 := (blk_cell HBX5.out 6).trans rfl; have l7 := (blk_cell HBX5.out 7).trans rfl)
        | ((with_reducible refine gate_builtin (b := .append) (xs := #[.tmp 55, .tmp 57]) rfl ?_); at_builtin; refine Kd.R_append k36 (w0 := w) w.heap.size rfl (.tmp 55) (.tmp 57) 31 36 (.agg #[(.int .i64 0), (.int .u8 0), (.int .i64 0), (.string ⟨#[]⟩), (.string ⟨#[]⟩), (.int .i64 0), (.int .i64 0), (.int .u8 0)]) 80 rfl Try.underlying31 info36 rfl (by decide) (by omega) v1 u x [.int .i64 x.f0, .int .u8 x.f1, .int .i64 x.f2, .string x.f3, .string x.f4, .int .i64 x.f5, .int .i64 x.f6, .int .u8 x.f7] (fun k => w.heap.size ≤ k) (fun _ => False) rfl rfl (k36_mkM _ _ _ x) (fun _ hk => hk.elim) (fun k hk => Nat.le_trans HB5.out.size hk) HV1.out HB5.out HB5.out.size ?bL ?_; (case bL => omega); intro v2 w6 hv2 hb6 hg6 hat6))
      go_wp2
      refine bodyPost_ret (results_list (rs := [.tmp 4, .tmp 5, .tmp 6]) rfl (by simp) (.tmp (.tmp (.tmp .nil)))) rfl ?_
      rw [HE.out, HT.out.1, HT.out.2]
      exact ⟨_, rfl, Kd.R_lower (Kd.R_mono hv2 (fun _ h => .inr h)) hb, hb6⟩
end Go.Proofs.Ytinpgejkkfpckaa.Pr
end
section
namespace Go.Proofs.Ytinpgejkkfpckaa.Pr
open Go.RowKit Go.Proofs.YtinpgejkkfpckaaW.PrintWords
set_option linter.unusedVariables false
set_option linter.unusedSimpArgs false
theorem runP_same {P Q : List Past} (h : ∀ a b, getP Q a b = getP P a b) (id : Int) : runP Q id = runP P id := by unfold runP upd; rw [h, h, h]
theorem usedL_same {P Q : List Past} (h : ∀ a b, getP Q a b = getP P a b) (acc : ByteArray) (fr tt : Int) (ids : List Int) : usedL Q acc fr tt ids = usedL P acc fr tt ids := by
  have e : isOf Q acc = isOf P acc := by funext id; unfold isOf; rw [runP_same h]
  unfold usedL
  rw [e]
  congr 1
  funext id
  rw [runP_same h]
theorem totalP_same {P Q : List Past} (h : ∀ a b, getP Q a b = getP P a b) (ids : List Int) (acc : ByteArray) : totalP Q ids acc = totalP P ids acc := by
  funext a b
  unfold totalP
  rw [usedL_same h]
theorem rollR_same {P Q : List Past} (h : ∀ a b, getP Q a b = getP P a b) (ids : List Int) (acc : ByteArray) (fr tt span : Int) : rollR Q ids acc fr tt span = rollR P ids acc fr tt span := by
  unfold rollR
  rw [totalP_same h]
theorem runsL_same {P Q : List Past} (h : ∀ a b, getP Q a b = getP P a b) (name : ByteArray) (ids : List Int) : runsL Q name ids = runsL P name ids := by
  have e : isName Q name = isName P name := by funext id; unfold isName; rw [runP_same h]
  unfold runsL
  rw [e]
  congr 1
  funext id
  rw [runP_same h]
/-- What Used tells, as three. -/
def usedT (P : List Past) (ids : List Int) (acc : ByteArray) (fr tt : Int) : Int × Bool × Int := if wrongP fr tt = 0 then ((totalP P ids acc fr tt).1, (totalP P ids acc fr tt).2, 0) else (0, false, wrongP fr tt)
theorem usedR_eq (P : List Past) (ids : List Int) (acc : ByteArray) (fr tt : Int) : usedR (totalP P ids acc fr tt).1 (totalP P ids acc fr tt).2 fr tt = .tuple #[.int .i64 (usedT P ids acc fr tt).1, .bool (usedT P ids acc fr tt).2.1, .int .i64 (usedT P ids acc fr tt).2.2] := by
  unfold usedR usedT
  split <;> rfl
theorem usedT_same {P Q : List Past} (h : ∀ a b, getP Q a b = getP P a b) (ids : List Int) (acc : ByteArray) (fr tt : Int) : usedT Q ids acc fr tt = usedT P ids acc fr tt := by
  unfold usedT
  rw [totalP_same h]
theorem rollR_len (P : List Past) (ids : List Int) (acc : ByteArray) (fr tt span : Int) : (rollR P ids acc fr tt span).1.length ≤ 1000 := by
  unfold rollR
  split
  · split
    · simp
    · simp only [rollL_len]; omega
  · simp
theorem sr_loop (l : List S56) (hl : l.length < 9223372036854775807) : ∀ (d i k : Nat), i ≤ l.length → l.length - i ≤ d → d < k → musterlaw27_sameRuns.l0 k l l (i : Int) = some true
  | d, i, 0, _, _, hk => by omega
  | d, i, k + 1, h1, h2, h3 => by
    simp only [musterlaw27_sameRuns.l0]
    by_cases hi : i < l.length
    · rw [if_pos (by omega), if_pos (by omega), if_pos (by omega)]
      simp only [beq_self_eq_true, Bool.not_true, Bool.or_self, Bool.false_eq_true, if_false]
      rw [wrap_succ i (by omega)]
      exact sr_loop l hl (d - 1) (i + 1) k (by omega) (by omega) (by omega)
    · rw [if_neg (by omega)]
theorem sr_spec (l : List S56) (hl : l.length < 9223372036854775807) (k : Nat) (hk : l.length < k) : musterlaw27_sameRuns.f k l l = some true := by
  unfold musterlaw27_sameRuns.f
  rw [if_pos rfl]
  exact sr_loop l hl l.length 0 k (by omega) (by omega) hk
/-- What Take leaves. -/
theorem take_state (P : List Past) (ids : List Int) (p : Past) : (takeT P ids p).2.2 = if (takeT P ids p).1 = true then (P ++ [p], insI ids p.id) else (P, ids) := by
  unfold takeT
  repeat' split
  all_goals first | rfl | (simp_all; done)
theorem take_ok {P : List Past} {ids : List Int} {p : Past} (h : (takeT P ids p).1 = true) : rightPast p = true ∧ getP P p.id p.what = none := by
  unfold takeT at h
  split at h
  · rename_i hr
    split at h
    · cases h
    · rename_i hg
      exact ⟨hr, by simpa using hg⟩
  · cases h
theorem playU_state (u : List S36) (x : S36) : (takeT (u.map pastS) (idsP (u.map pastS)) (pastS x)).2.2 = ((playU u x).map pastS, idsP ((playU u x).map pastS)) := by
  rw [take_state]
  unfold playU
  split
  · rw [List.map_append, List.map_singleton, idsP_snoc]
  · rfl
theorem playU_ok {u : List S36} {x : S36} (h1 : OkP (u.map pastS)) (h2 : KeyND (u.map pastS)) : OkP ((playU u x).map pastS) ∧ KeyND ((playU u x).map pastS) ∧ (playU u x).length ≤ u.length + 1 := by
  unfold playU
  split
  · rename_i h
    obtain ⟨a, b⟩ := take_ok h
    rw [List.map_append, List.map_singleton]
    refine ⟨fun p hp => ?_, ?_, by simp⟩
    · rcases List.mem_append.1 hp with hp | hp
      · exact h1 p hp
      · rw [List.mem_singleton.1 hp]; exact a
    · unfold KeyND
      rw [List.pairwise_append]
      exact ⟨h2, by simp, fun p hp q hq => by rw [List.mem_singleton.1 hq]; exact getP_none.1 b p hp⟩
  · exact ⟨h1, h2, by omega⟩
end Go.Proofs.Ytinpgejkkfpckaa.Pr
end
