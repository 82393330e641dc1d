/-
  Rows of kept replies of one's own, in cells; slices.DeleteFunc of those up to a floor.
-/
import Derived.Test.YtafnjlgdjhegaaaHR46
import Derived.Test.YtafnjlgdjhegaaaHClone
namespace Go.Proofs.Ytafnjlgdjhegaaa.Pr
open Go.RowKit Go.Proofs.YtafnjlgdjhegaaaW.PrintWords Go.Proofs.YtafnjlgdjhegaaaW.PrintLast Go.Proofs.YtafnjlgdjhegaaaW.PrintMore Go.Proofs.YtafnjlgdjhegaaaG
set_option linter.unusedVariables false
set_option linter.unusedSimpArgs false
/-! ### kept replies with the slices that hold them -/
abbrev P46 := S46 × Value
def cell46 (p : P46) : List Value := [.int .i64 p.1.f0, p.2]
def cells46 (ps : List P46) : List Value := ps.flatMap cell46
theorem cells46_cons (p : P46) (ps : List P46) : cells46 (p :: ps) = cell46 p ++ cells46 ps := rfl
theorem cells46_append (l m : List P46) : cells46 (l ++ m) = cells46 l ++ cells46 m := by simp [cells46]
theorem cells46_length (ps : List P46) : (cells46 ps).length = ps.length * 2 := by
  induction ps with
  | nil => rfl
  | cons p ps ih => rw [cells46_cons, List.length_append, ih]; simp [cell46]; omega
theorem cells46_take (l : List P46) (i : Nat) : (cells46 l).take (i * 2) = cells46 (l.take i) := by
  induction l generalizing i with
  | nil => simp [cells46]
  | cons c l ih =>
    cases i with
    | zero => simp [cells46]
    | succ i =>
      rw [List.take_succ_cons, cells46_cons, cells46_cons, ← ih, show (i + 1) * 2 = i * 2 + 1 + 1 by omega]
      rfl
theorem cells46_drop (l : List P46) (i : Nat) : (cells46 l).drop (i * 2) = cells46 (l.drop i) := by
  induction l generalizing i with
  | nil => simp [cells46]
  | cons c l ih =>
    cases i with
    | zero => simp
    | succ i =>
      rw [List.drop_succ_cons, cells46_cons, ← ih, show (i + 1) * 2 = i * 2 + 1 + 1 by omega]
      rfl
theorem cells46_get (l : List P46) (j i : Nat) (p : P46) (hp : l[j]? = some p) (hi : i < 2) : (cells46 l)[j * 2 + i]? = (cell46 p)[i]? := by
  have h1 : (cells46 l).drop (j * 2) = cell46 p ++ cells46 (l.drop (j + 1)) := by
    rw [cells46_drop, List.drop_eq_getElem_cons (List.getElem?_eq_some_iff.1 hp).1, (List.getElem?_eq_some_iff.1 hp).2, cells46_cons]
  rw [← List.getElem?_drop, h1, List.getElem?_append_left (by simpa [cell46] using hi)]
/-- The slices are slices. -/
def ones46 (ps : List P46) : Prop := ∀ p ∈ ps, ∃ A n c, p.2 = .slice A n c
theorem cells46_one {l : List P46} (h : ones46 l) : ∀ u ∈ cells46 l, u.oneCell' = true := by
  intro u hu
  simp only [cells46, List.mem_flatMap, cell46, List.mem_cons, List.not_mem_nil, or_false] at hu
  obtain ⟨c, hc, rfl | rfl⟩ := hu
  · rfl
  · obtain ⟨_, _, _, e⟩ := h c hc
    rw [e]
    rfl
theorem cells46_set (m : List P46) (a : Nat) (y : P46) (h : a < m.length) : ((cells46 m).set (a * 2) (.int .i64 y.1.f0)).set (a * 2 + 1) y.2 = cells46 (m.set a y) := by
  induction m generalizing a with
  | nil => simp at h
  | cons c m ih =>
    cases a with
    | zero => rfl
    | succ a =>
      rw [List.set_cons_succ, cells46_cons, cells46_cons, ← ih a (by simpa using h), show (a + 1) * 2 = a * 2 + 1 + 1 by omega]
      rfl
def zp46 : P46 := (z46, .slice none 0 0)
theorem row46_get {w : World} {g : Nat} {l : List P46} {sp : List Value} (h : w.heap[g]? = some (.cells (cells46 l ++ sp).toArray 46 (0, 0))) (j : Nat) (hj : j < l.length) :
    w.cell? ⟨g, j * 2, none⟩ = some (.int .i64 (l.getD j zp46).1.f0) ∧ w.cell? ⟨g, j * 2 + 1, none⟩ = some (l.getD j zp46).2 := by
  have hp : l[j]? = some (l.getD j zp46) := by simp [List.getD_eq_getElem?_getD, List.getElem?_eq_getElem hj]
  have hl := cells46_length l
  refine ⟨?_, ?_⟩
  · rw [cell_block h, List.getElem?_append_left (by omega)]
    exact cells46_get l j 0 _ hp (by omega)
  · rw [cell_block h, List.getElem?_append_left (by omega)]
    exact cells46_get l j 1 _ hp (by omega)
theorem row46_set {w : World} {g : Nat} {m : List P46} {sp : List Value} (h : w.heap[g]? = some (.cells (cells46 m ++ sp).toArray 46 (0, 0))) (a : Nat) (y : P46) (ha : a < m.length) :
    ((w.setCell ⟨g, a * 2, none⟩ (.int .i64 y.1.f0)).setCell ⟨g, a * 2 + 1, none⟩ y.2).heap[g]? = some (.cells (cells46 (m.set a y) ++ sp).toArray 46 (0, 0)) := by
  rw [heap_setCell_same _ g (a * 2 + 1) _ 46 _ (heap_setCell_same w g (a * 2) _ 46 _ h)]
  have hl := cells46_length m
  congr 2
  rw [← cells46_set m a y ha]
  simp only [List.setIfInBounds_toArray]
  rw [List.set_append_left _ _ (by omega), List.set_append_left _ _ (by rw [List.length_set]; omega)]
/-- What R says of a row of kept replies, with their slices. -/
theorem R46_open {w : World} {base : Nat} {ok : Nat → Prop} {v : Value} {xs : List S46} (h : Kd.R k46 46 w base ok v xs) :
    ∃ ps : List P46, ps.map Prod.fst = xs ∧ ones46 ps ∧ (∀ k, v.ownBlock = some k → ok k) ∧ w.ownsRow base 46 2 v ps.length (cells46 ps) ∧ ∀ p ∈ ps, Kd.R (Kd.int .u8) 5 w base (fun k => ok k ∧ some k ≠ v.ownBlock) p.2 p.1.f1 := by
  obtain ⟨h0, inner, ho, hr⟩ := h
  have key : ∀ (xs : List S46) (inner : List Value), Reps (k46.M w base (fun k => ok k ∧ some k ≠ v.ownBlock)) 2 xs inner → ∃ ps : List P46, ps.map Prod.fst = xs ∧ inner = cells46 ps ∧ ∀ p ∈ ps, Kd.R (Kd.int .u8) 5 w base (fun k => ok k ∧ some k ≠ v.ownBlock) p.2 p.1.f1 := by
    intro xs
    induction xs with
    | nil =>
      rintro inner ⟨hl, _⟩
      exact ⟨[], rfl, List.eq_nil_of_length_eq_zero (by simpa using hl), by simp⟩
    | cons x xs ih =>
      rintro inner ⟨hl, hr⟩
      obtain ⟨s, hs, hR⟩ := k46_openM (hr 0 x rfl)
      have hl2 : inner.length = xs.length * 2 + 2 := by rw [hl]; simp; omega
      obtain ⟨ps, h1, h2, h3⟩ := ih (inner.drop 2) ⟨by rw [List.length_drop, hl2]; omega, fun j p hp => by
        have := hr (j + 1) p (by simpa using hp)
        rwa [show (j + 1) * 2 = 2 + j * 2 by omega, ← List.drop_drop] at this⟩
      refine ⟨(x, s) :: ps, by rw [List.map_cons, h1], ?_, ?_⟩
      · rw [cells46_cons, ← h2]
        have hs' : inner.take 2 = cell46 (x, s) := by
          unfold cell46
          simpa using hs
        rw [← hs', List.take_append_drop]
      · intro p hp
        rcases List.mem_cons.1 hp with rfl | hp
        · exact hR
        · exact h3 p hp
  obtain ⟨ps, h1, h2, h3⟩ := key xs inner hr
  refine ⟨ps, h1, fun p hp => (by obtain ⟨A, c, e⟩ := Kd.R_slice (h3 p hp); exact ⟨A, _, c, e⟩), h0, ?_, h3⟩
  subst h2
  rw [← h1, List.length_map] at ho
  exact ho
theorem R46_shut {w : World} {base : Nat} {ok : Nat → Prop} {v : Value} {ps : List P46} (h0 : ∀ k, v.ownBlock = some k → ok k) (ho : w.ownsRow base 46 2 v ps.length (cells46 ps)) (hr : ∀ p ∈ ps, Kd.R (Kd.int .u8) 5 w base (fun k => ok k ∧ some k ≠ v.ownBlock) p.2 p.1.f1) :
    Kd.R k46 46 w base ok v (ps.map Prod.fst) := by
  refine ⟨h0, cells46 ps, by rw [List.length_map]; exact ho, by rw [List.length_map]; exact cells46_length ps, fun j x hx => ?_⟩
  rw [List.getElem?_map] at hx
  obtain ⟨p, hp, rfl⟩ := Option.map_eq_some_iff.1 hx
  have h1 : (cells46 ps).drop (j * 2) = cell46 p ++ cells46 (ps.drop (j + 1)) := by
    rw [cells46_drop, List.drop_eq_getElem_cons (List.getElem?_eq_some_iff.1 hp).1, (List.getElem?_eq_some_iff.1 hp).2, cells46_cons]
  show k46.M w base _ p.1 (((cells46 ps).drop (j * 2)).take 2)
  rw [h1]
  exact k46_mkM w base _ p.1 (hr p (List.mem_of_getElem? hp))
end Go.Proofs.Ytafnjlgdjhegaaa.Pr
