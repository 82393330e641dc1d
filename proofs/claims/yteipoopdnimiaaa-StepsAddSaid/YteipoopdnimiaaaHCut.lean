/-
  Rows of cuts, in cells: what a row that is read or owned says of its cells; slices.Clone.
-/
import Derived.Test.YteipoopdnimiaaaPr0
import Derived.Test.YteipoopdnimiaaaG
import Derived.Outline
import Derived.Lib.SliceRun
import Derived.WalkSpells
import Derived.WalkLawsBesides
namespace Go.Proofs.Yteipoopdnimiaaa.Pr
open Go.RowKit Go.Proofs.YteipoopdnimiaaaW.PrintWords Go.Proofs.YteipoopdnimiaaaW.PrintLast Go.Proofs.YteipoopdnimiaaaW.PrintMore Go.Proofs.YteipoopdnimiaaaG
set_option linter.unusedVariables false
set_option linter.unusedSimpArgs false
def cell2 (c : S34) : List Value := [.int .i64 c.f0, .int .i64 c.f1]
def cells34 (l : List S34) : List Value := l.flatMap cell2
theorem cells34_nil : cells34 [] = [] := rfl
theorem cells34_cons (c : S34) (l : List S34) : cells34 (c :: l) = cell2 c ++ cells34 l := rfl
theorem cells34_append (l m : List S34) : cells34 (l ++ m) = cells34 l ++ cells34 m := by simp [cells34]
theorem cells34_length (l : List S34) : (cells34 l).length = l.length * 2 := by
  induction l with
  | nil => rfl
  | cons c l ih => rw [cells34_cons, List.length_append, ih]; simp [cell2]; omega
theorem cells34_take (l : List S34) (i : Nat) : (cells34 l).take (i * 2) = cells34 (l.take i) := by
  induction l generalizing i with
  | nil => simp [cells34]
  | cons c l ih =>
    cases i with
    | zero => simp [cells34]
    | succ i =>
      rw [List.take_succ_cons, cells34_cons, cells34_cons, ← ih, show (i + 1) * 2 = i * 2 + 1 + 1 by omega]
      rfl
theorem cells34_drop (l : List S34) (i : Nat) : (cells34 l).drop (i * 2) = cells34 (l.drop i) := by
  induction l generalizing i with
  | nil => simp [cells34]
  | cons c l ih =>
    cases i with
    | zero => simp
    | succ i =>
      rw [List.drop_succ_cons, cells34_cons, ← ih, show (i + 1) * 2 = i * 2 + 1 + 1 by omega]
      rfl
theorem cells34_one (l : List S34) : ∀ u ∈ cells34 l, u.oneCell' = true := by
  intro u hu
  simp only [cells34, List.mem_flatMap, cell2, List.mem_cons, List.not_mem_nil, or_false] at hu
  obtain ⟨c, _, rfl | rfl⟩ := hu <;> rfl
theorem cells34_get (l : List S34) (j i : Nat) (p : S34) (hp : l[j]? = some p) (hi : i < 2) : (cells34 l)[j * 2 + i]? = (cell2 p)[i]? := by
  have h1 : (cells34 l).drop (j * 2) = cell2 p ++ cells34 (l.drop (j + 1)) := by
    rw [cells34_drop, List.drop_eq_getElem_cons (List.getElem?_eq_some_iff.1 hp).1, (List.getElem?_eq_some_iff.1 hp).2, cells34_cons]
  rw [← List.getElem?_drop, h1, List.getElem?_append_left (by simpa [cell2] using hi)]
theorem reps34 (l : List S34) (w : World) (base : Nat) (ok : Nat → Prop) : Reps (k34.M w base ok) 2 l (cells34 l) := by
  refine ⟨cells34_length l, fun j p hp => ?_⟩
  have h1 : (cells34 l).drop (j * 2) = cell2 p ++ cells34 (l.drop (j + 1)) := by
    rw [cells34_drop, List.drop_eq_getElem_cons (List.getElem?_eq_some_iff.1 hp).1, (List.getElem?_eq_some_iff.1 hp).2, cells34_cons]
  rw [h1]
  exact k34_mkM w base ok p
theorem cells_of_reps {l : List S34} {cs : List Value} {w : World} {base : Nat} {ok : Nat → Prop} (h : Reps (k34.M w base ok) 2 l cs) : cs = cells34 l := by
  obtain ⟨hl, hr⟩ := h
  induction l generalizing cs with
  | nil => simpa [cells34] using hl
  | cons c l ih =>
    have h0 := k34_openM (hr 0 c rfl)
    simp only [Nat.zero_mul, List.drop_zero] at h0
    have h2 := ih (cs := cs.drop 2) (by rw [List.length_drop, hl]; simp; omega) (fun j p hp => by
      have := hr (j + 1) p (by simpa using hp)
      rwa [show (j + 1) * 2 = 2 + j * 2 by omega, ← List.drop_drop] at this)
    rw [cells34_cons, ← h2, cell2, ← h0, List.take_append_drop]
theorem R34_own {w : World} {base : Nat} {ok : Nat → Prop} {v : Value} {l : List S34} (h : Kd.R k34 34 w base ok v l) : w.ownsRow base 34 2 v l.length (cells34 l) := by
  obtain ⟨_, inner, ho, hr⟩ := h
  obtain rfl := cells_of_reps hr
  exact ho
theorem R34_of {w : World} {base : Nat} {v : Value} {l : List S34} (h : w.ownsRow base 34 2 v l.length (cells34 l)) : Kd.R k34 34 w base (fun _ => True) v l :=
  ⟨fun _ _ => trivial, cells34 l, h, reps34 _ _ _ _⟩
theorem C34_cells {w : World} {ad : Addr} {n : Nat} {l : List S34} (h : Kd.C k34 w (some ad) n l) : ∀ j u, (cells34 l)[j]? = some u → w.cell? (ad.add j) = some u := by
  intro j u hj
  obtain ⟨hl, _, hc⟩ := h
  have hjl : j < l.length * 2 := by
    have := (List.getElem?_eq_some_iff.1 hj).1
    rwa [cells34_length] at this
  obtain ⟨ad', e, hc⟩ := hc (by omega)
  injection e with e
  subst e
  obtain ⟨c, hcl, hk, hcc⟩ := hc (j / 2) _ (List.getElem?_eq_getElem (by omega))
  have he := k34_open hk
  subst he
  have h2 := cells34_get l (j / 2) (j % 2) _ (List.getElem?_eq_getElem (by omega)) (Nat.mod_lt _ (by omega))
  rw [show j / 2 * 2 + j % 2 = j by omega, hj] at h2
  have := hcc (j % 2) u h2.symm
  rwa [show j / 2 * k34.sz + j % 2 = j from by show j / 2 * 2 + j % 2 = j; omega] at this
theorem C34_of {w : World} {ad : Addr} {l : List S34} (hm : l.length ≤ 9223372036854775807) (h : ∀ j u, (cells34 l)[j]? = some u → w.cell? (ad.add j) = some u) : Kd.C k34 w (some ad) l.length l := by
  refine ⟨rfl, hm, fun _ => ⟨ad, rfl, fun j p hp => ⟨cell2 p, rfl, k34_mk w p, fun i u hi => ?_⟩⟩⟩
  have hi2 : i < 2 := (List.getElem?_eq_some_iff.1 hi).1
  refine h _ _ ?_
  show (cells34 l)[j * 2 + i]? = _
  rw [cells34_get l j i p hp hi2, hi]
theorem C34_own {w : World} {base n : Nat} {v : Value} {l : List S34} (h : w.ownsRow base 34 2 v n (cells34 l)) : ∃ A c, v = .slice A l.length c ∧ l.length ≤ c ∧ Kd.C k34 w A l.length l := by
  have hn : l.length = n := by have := h.1; rw [cells34_length] at this; omega
  subst hn
  rcases h.2 with ⟨rfl, h0⟩ | ⟨g, cap, cur, rfl, _, _, h1, h2, _, _⟩
  · obtain rfl := List.eq_nil_of_length_eq_zero h0
    exact ⟨none, 0, rfl, by simp, rfl, by simp, fun h => absurd h (by simp)⟩
  · exact ⟨_, cap, rfl, h1, C34_of (by unfold maxLen at h2; omega) (h.cells (g := g) rfl)⟩

set_option maxHeartbeats 400000 in
theorem clone_any (A : Option Addr) (c : Nat) (l : List S34) (w : World) (hr : Kd.C k34 w A l.length l) (hl : l.length ≤ 1000000) :
    Calls Try.prog 29 #[.slice A l.length c] w fun e w' => ∃ v, e = .returned v ∧ w'.ownsRow w.heap.size 34 2 v l.length (cells34 l) ∧ Below w.heap.size w w' := by
  have hnil := fun (a : Option Addr) (n c n' c' : Nat) (W : World) => Lib.run_eql_slice_nil W 22 34 a n c n' c' Try.underlying22
  obtain ⟨i0, hi0, hz0, hzs, hzb⟩ := info_parts info34
  cases A with
  | none =>
    have : l = [] := by
      cases l with
      | nil => rfl
      | cons a l =>
        obtain ⟨ad, h, _⟩ := hr.2.2 (by simp)
        cases h
    subst this
    clear hr
    go_enter Try.func29, Try.ntmps29
    go_wp2
    go_ret
    exact ⟨_, rfl, World.ownsRow_nil _ _ _ _, Below.refl _ _⟩
  | some ad =>
    have hc := C34_cells hr
    have HC : Hd (∀ j u, (cells34 l)[j]? = some u → (w.alloc (.cells #[] 34)).cell? (ad.add j) = some u) := hd (fun j u hj => by
      exact pw_cell_below (below_alloc (Below.refl _ _) _) (hc j u hj))
    have HO : Hd ((w.alloc (.cells #[] 34)).ownsRow w.heap.size 34 2 (.slice (some ⟨w.heap.size, 0, none⟩) 0 0) 0 []) := hd (World.ownsRow_lit (base := w.heap.size) (e := 34) (size := 2) w #[] 0 (Nat.le_refl _) (by unfold maxLen; omega) rfl)
    have HL : Hd ((cells34 l).length = l.length * 2) := hd (cells34_length l)
    have H1 := hd (cells34_one l)
    have A1 : Hd (0 + l.length ≤ maxLen) := hd (by unfold maxLen; omega)
    have A2 : Hd ((0 + l.length) * 16 ≤ 140737488355328) := hd (by omega)
    have A3 : Hd (w.heap.size ≤ (w.alloc (.cells #[] 34)).heap.size) := hd (by simp)
    clear hr hc
    generalize hcs : cells34 l = cs at *
    go_enter Try.func29, Try.ntmps29
    go_wp2_with (at_builtin; refine wpList_append_own _ rfl _ _ 22 rfl w.heap.size 34 i0 (.agg #[.int .i64 0, .int .i64 0]) 2 16 Try.underlying22 hi0 hz0 hzs hzb rfl (by decide) (.slice (some ⟨w.heap.size, 0, none⟩) 0 0) 0 [] rfl HO.out ad l.length c cs rfl HL.out HC.out H1.out A1.out A2.out A3.out ?_; intro v w1 O1 G1 _)
    go_wp2
    go_ret
    refine ⟨v, rfl, by simpa using O1, ?_⟩
    exact (below_alloc (Below.refl _ _) _).grown G1 (by simp) (fun k hk => by simp [Value.ownBlock] at hk; omega)
end Go.Proofs.Yteipoopdnimiaaa.Pr
