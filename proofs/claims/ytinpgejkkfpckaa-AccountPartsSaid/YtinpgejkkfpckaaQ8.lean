/-
  AccountOnce in plain lists: the events of numbers; what is known hangs on the SET of the numbers alone.
-/
import Derived.Test.YtinpgejkkfpckaaQSame
import Derived.Test.YtinpgejkkfpckaaPr19
namespace Go.Proofs.Ytinpgejkkfpckaa.Pr
open Go.RowKit Go.Proofs.YtinpgejkkfpckaaW.PrintWords
set_option linter.unusedVariables false
set_option linter.unusedSimpArgs false
/-- Pick. -/
def pickN (x m : Int) : Int := if Int.tmod x m < 0 then wrap64 (Int.tmod x m + m) else Int.tmod x m
theorem pick_is (x m : Int) (h : 0 < m) : musterlow_Pick.f x m = some (pickN x m) := by
  unfold musterlow_Pick.f pickN
  rw [if_neg (by omega), if_neg (by omega)]
  split <;> rfl
theorem pick_lt (x m : Int) (h : 0 < m) (hm : m < 4611686018427387904) : 0 ≤ pickN x m ∧ pickN x m < m := by
  have h1 := Int.tmod_lt_of_pos x h
  have h2 := Int.lt_tmod_of_pos x h
  unfold pickN
  split
  · rw [w64 ⟨by omega, by omega⟩]
    omega
  · omega
def evG (r q : Int) : Past := ⟨wrap64 (1 + r), (wrap64 (1 + q)) % 256, wrap64 ((wrap64 ((wrap64 (1 + r)) * 1000)) + (wrap64 ((wrap64 (((wrap64 (1 + q)) % 256) * (wrap64 (1 + (Int.tmod (wrap64 ((wrap64 (1 + r)) * 37)) 11))))) * 900))), strOfNums [(wrap64 (97 + (Int.tmod (wrap64 (1 + r)) 3))) % 256], ⟨#[117]⟩, wrap64 (1 + (Int.tmod (wrap64 (1 + r)) 4)), wrap64 (1 + (Int.tmod (wrap64 (1 + r)) 7)), if (wrap64 (1 + q)) % 256 = 3 then (wrap64 (3 + (Int.tmod (wrap64 (1 + r)) 6))) % 256 else 0⟩
def evP (n : Int) : Past := evG (Int.tmod n 8) (Int.tmod (wrap64 (Int.tdiv n 8)) 3)
def evOk (r q : Nat) : Bool := rightPast (evG r q) && decide ((evG r q).id = 1 + r) && decide ((evG r q).what = 1 + q)
theorem ev_all : ((List.range 8).all fun r => (List.range 3).all fun q => evOk r q) = true := by kernel_rfl
theorem ev_at (n : Int) (h0 : 0 ≤ n) (h1 : n < 1000003) : ∃ r q : Nat, r < 8 ∧ q < 3 ∧ evP n = evG r q ∧ evOk r q = true := by
  have e1 : Int.tmod n 8 = n % 8 := Int.tmod_eq_emod_of_nonneg h0
  have e2 : Int.tdiv n 8 = n / 8 := Int.tdiv_eq_ediv_of_nonneg h0
  have e3 : wrap64 (n / 8) = n / 8 := w64 ⟨by omega, by omega⟩
  have e4 : Int.tmod (n / 8) 3 = n / 8 % 3 := Int.tmod_eq_emod_of_nonneg (by omega)
  refine ⟨(n % 8).toNat, (n / 8 % 3).toNat, by omega, by omega, ?_, ?_⟩
  · unfold evP
    rw [e2, e3, e4, e1, Int.toNat_of_nonneg (by omega), Int.toNat_of_nonneg (by omega)]
  · have := ev_all
    rw [List.all_eq_true] at this
    have := this (n % 8).toNat (List.mem_range.2 (by omega))
    rw [List.all_eq_true] at this
    exact this (n / 8 % 3).toNat (List.mem_range.2 (by omega))
theorem ev_right (n : Int) (h0 : 0 ≤ n) (h1 : n < 1000003) : rightPast (evP n) = true := by
  obtain ⟨r, q, _, _, e, h⟩ := ev_at n h0 h1
  rw [e]
  simp only [evOk, Bool.and_eq_true] at h
  exact h.1.1
theorem ev_inj {n m : Int} (h0 : 0 ≤ n) (h1 : n < 1000003) (k0 : 0 ≤ m) (k1 : m < 1000003) (hi : (evP n).id = (evP m).id) (hw : (evP n).what = (evP m).what) : evP n = evP m := by
  obtain ⟨r, q, _, _, e, h⟩ := ev_at n h0 h1
  obtain ⟨r', q', _, _, e', h'⟩ := ev_at m k0 k1
  rw [e, e'] at hi hw ⊢
  simp only [evOk, Bool.and_eq_true, decide_eq_true_eq] at h h'
  rw [h.1.2, h'.1.2] at hi
  rw [h.2, h'.2] at hw
  obtain rfl : r = r' := by omega
  obtain rfl : q = q' := by omega
  rfl
/-- What is known is just the events of these numbers. -/
structure Known (P : List Past) (K : List Int) : Prop where
  nd : KeyND P
  mem : ∀ p, p ∈ P ↔ ∃ n ∈ K, p = evP n
  rng : ∀ n ∈ K, 0 ≤ n ∧ n < 1000003
  len : P.length ≤ K.length
theorem Known.nil : Known [] [] := ⟨List.Pairwise.nil, by simp, by simp, by simp⟩
def putE (P : List Past) (n : Int) : List Past := if (getP P (evP n).id (evP n).what).isSome = true then P else P ++ [evP n]
theorem Known.take {P : List Past} {K : List Int} (h : Known P K) (hl : K.length < 4096) {n : Int} (h0 : 0 ≤ n) (h1 : n < 1000003) :
    takeT P (idsP P) (evP n) = (!(getP P (evP n).id (evP n).what).isSome, 0, putE P n, idsP (putE P n)) ∧ Known (putE P n) (K ++ [n]) := by
  have hids := idsP_len P
  have hlen := h.len
  unfold takeT putE
  rw [if_pos (ev_right n h0 h1)]
  cases hg : getP P (evP n).id (evP n).what with
  | some p =>
    simp only [Option.isSome_some, if_true, Bool.not_true]
    obtain ⟨hp, hi, hw⟩ := getP_some hg
    refine ⟨trivial, h.nd, fun q => ?_, fun m hm => ?_, by simp; omega⟩
    · rw [h.mem]
      constructor
      · rintro ⟨m, hm, e⟩
        exact ⟨m, List.mem_append_left _ hm, e⟩
      · rintro ⟨m, hm, e⟩
        rcases List.mem_append.1 hm with hm | hm
        · exact ⟨m, hm, e⟩
        · rw [List.mem_singleton.1 hm] at e
          obtain ⟨m', hm', e'⟩ := (h.mem p).1 hp
          have hr := h.rng m' hm'
          exact ⟨m', hm', by rw [e]; exact ev_inj h0 h1 hr.1 hr.2 (by rw [← e', hi]) (by rw [← e', hw])⟩
    · rcases List.mem_append.1 hm with hm | hm
      · exact h.rng m hm
      · rw [List.mem_singleton.1 hm]; exact ⟨h0, h1⟩
  | none =>
    simp only [Option.isSome_none, Bool.false_eq_true, if_false, Bool.not_false]
    refine ⟨?_, ?_, fun q => ?_, fun m hm => ?_, by simp; omega⟩
    · rw [idsP_snoc]
      split
      · rfl
      · rw [if_neg (by omega)]
    · unfold KeyND
      rw [List.pairwise_append]
      exact ⟨h.nd, by simp, fun p hp q hq => by rw [List.mem_singleton.1 hq]; exact getP_none.1 hg p hp⟩
    · rw [List.mem_append, h.mem, List.mem_singleton]
      constructor
      · rintro (⟨m, hm, e⟩ | e)
        · exact ⟨m, List.mem_append_left _ hm, e⟩
        · exact ⟨n, by simp, e⟩
      · rintro ⟨m, hm, e⟩
        rcases List.mem_append.1 hm with hm | hm
        · exact .inl ⟨m, hm, e⟩
        · rw [List.mem_singleton.1 hm] at e
          exact .inr e
    · rcases List.mem_append.1 hm with hm | hm
      · exact h.rng m hm
      · rw [List.mem_singleton.1 hm]; exact ⟨h0, h1⟩
/-- The same numbers: the same is known. -/
theorem Known.same {P Q : List Past} {K L : List Int} (h : Known P K) (k : Known Q L) (e : ∀ n, n ∈ K ↔ n ∈ L) : SameP P Q ∧ idsP Q = idsP P := by
  have hs : ∀ p, p ∈ Q ↔ p ∈ P := fun p => by
    rw [h.mem, k.mem]
    constructor
    · rintro ⟨n, hn, rfl⟩; exact ⟨n, (e n).2 hn, rfl⟩
    · rintro ⟨n, hn, rfl⟩; exact ⟨n, (e n).1 hn, rfl⟩
  refine ⟨⟨k.nd, hs⟩, rise_ext (idsP_rise Q) (idsP_rise P) fun x => ?_⟩
  rw [idsP_mem, idsP_mem]
  constructor
  · rintro ⟨p, hp, rfl⟩; exact ⟨p, (hs p).1 hp, rfl⟩
  · rintro ⟨p, hp, rfl⟩; exact ⟨p, (hs p).2 hp, rfl⟩
/-- What told tells. -/
def toldX (P : List Past) (ids : List Int) : Bool := decide (wrap64 ((rollR P ids ByteArray.empty 0 100000 3600).2.2 + (rollR P ids ⟨#[97]⟩ 0 200000 86400).2.2) ≠ 0) || (rollR P ids ByteArray.empty 0 100000 3600).2.1 || (rollR P ids ⟨#[97]⟩ 0 200000 86400).2.1
def toldA (P : List Past) (ids : List Int) : List S56 := if toldX P ids = true then [] else runsL P ByteArray.empty ids
def toldB (P : List Past) (ids : List Int) : List Int := if toldX P ids = true then [] else (rollR P ids ByteArray.empty 0 100000 3600).1 ++ (rollR P ids ⟨#[97]⟩ 0 200000 86400).1
theorem told_same {P Q : List Past} (h : ∀ a b, getP Q a b = getP P a b) (ids : List Int) : toldA Q ids = toldA P ids ∧ toldB Q ids = toldB P ids := by
  have e1 := rollR_same h ids ByteArray.empty 0 100000 3600
  have e2 := rollR_same h ids ⟨#[97]⟩ 0 200000 86400
  unfold toldA toldB toldX
  rw [e1, e2, runsL_same h]
  exact ⟨rfl, rfl⟩
end Go.Proofs.Ytinpgejkkfpckaa.Pr
