/-
  Texts of this session, laid together by wip/tools/merge.py: HOnceM, QAskO, HOnceL.
-/
import Derived.Test.YtafnjlgdjhegaaaQOnce2
import Derived.Test.YtafnjlgdjhegaaaHLook
import Derived.ArgAppend
import Derived.Maps.AppendAt
import Derived.Deep.MidRow
import Derived.Deep.Upon
import Derived.Test.YtafnjlgdjhegaaaHTake
section
namespace Go.Proofs.Ytafnjlgdjhegaaa.Pr
open Go.RowKit Go.Proofs.YtafnjlgdjhegaaaW.PrintWords Go.Proofs.YtafnjlgdjhegaaaW.PrintLast Go.Proofs.YtafnjlgdjhegaaaW.PrintMore Go.Proofs.YtafnjlgdjhegaaaG
set_option linter.unusedVariables false
set_option linter.unusedSimpArgs false
/-- From one world to a later one nothing old has turned but blocks of one type. -/
structure Turn (e base : Nat) (w w' : World) : Prop where
  below : Below base w w'
  keep : ∀ (k : Nat) (cells : Array Value) (t : TypeId), w.heap[k]? = some (.cells cells t (0, 0)) → t ≠ e → w'.heap[k]? = some (.cells cells t (0, 0))
theorem turn_below {e base : Nat} {w w' : World} (hb : base ≤ w.heap.size) (h : Below w.heap.size w w') : Turn e base w w' :=
  ⟨below_then (Below.refl base w) hb h, fun k cells t hk _ => blk_below hk h⟩
theorem turn_set {t base g j : Nat} {w : World} {cells : Array Value} (hg : w.heap[g]? = some (.cells cells t (0, 0))) (hb : base ≤ g) (u : Value) : Turn t base w (w.setCell ⟨g, j, none⟩ u) :=
  ⟨(Below.refl base w).setCell (p := ⟨g, j, none⟩) hb u, fun k cs t' hk ht => blk_far hk (fun e => by
    subst e
    rw [hg] at hk
    injection hk with hk
    injection hk with h1 h2 h3
    exact ht h2.symm) u⟩
theorem turn_cells {t base g : Nat} {w : World} {cells : Array Value} (hg : w.heap[g]? = some (.cells cells t (0, 0))) (hb : base ≤ g) (o : Nat) (vs : List Value) : Turn t base w (w.setCells g o vs) := by
  obtain ⟨h1, h2, h3, h4⟩ := setCells_same g vs o w
  refine ⟨⟨h1, h2, h3, by rw [h4]; exact Nat.le_refl _, fun k hk => setCells_far vs o k (by omega)⟩, fun k cs t' hk ht => ?_⟩
  rw [setCells_far vs o k (fun e => ?_)]
  · exact hk
  · subst e
    rw [hg] at hk
    injection hk with hk
    injection hk with h1 h2 h3
    exact ht h2.symm
theorem turn_grown {e base : Nat} {w w' : World} {row : Option Nat} (hg : w.grownBy w' row) (hb : base ≤ w.heap.size) (hr : ∀ b, row = some b → base ≤ b ∧ ∃ cells, w.heap[b]? = some (.cells cells e (0, 0))) : Turn e base w w' :=
  ⟨pw_below_grown (Below.refl base w) row hb hg (fun k hk => (hr k hk).1), fun k cs t hk ht => blk_grown hk hg (fun e' => by
    obtain ⟨_, cells, hc⟩ := hr k e'.symm
    rw [hc] at hk
    injection hk with hk
    injection hk with h1 h2 h3
    exact ht h2.symm)⟩
/-- A row of its own, wherever: its blocks are of its own types. -/
def Own {α : Type} (d : Kd α) (e base : Nat) (w : World) (v : Value) (xs : List α) : Prop := ∃ b, d.R e w b (fun k => base ≤ k) v xs
section
variable {α : Type} {d : Kd α} {e base q : Nat} {w w' : World} {v : Value} {xs : List α}
theorem Own.reads (h : Own d e base w v xs) : ∃ A c, v = .slice A xs.length c ∧ xs.length ≤ c ∧ d.C w A xs.length xs := by
  obtain ⟨b, h⟩ := h
  exact Kd.R_reads h
theorem Own.of {b : Nat} {ok : Nat → Prop} (h : d.R e w b ok v xs) (hb : base ≤ b) : Own d e base w v xs := ⟨b, Kd.R_mono (Kd.R_bound h) (fun k hk => Nat.le_trans hb hk.2.1)⟩
theorem Own.turn (h : Own d e base w v xs) (ht : Turn q base w w') (hq : ∀ x, x ∈ e :: d.E → x ≠ q) : Own d e base w' v xs := by
  obtain ⟨b, h⟩ := h
  refine ⟨b, Kd.R_mono (Kd.R_move (Kd.R_bound h) (fun k hk => ?_)) (fun _ hk => hk.1)⟩
  obtain ⟨_, _, _, x, hx, cells', hc⟩ := hk
  rw [ht.keep k cells' x hc (hq x hx), hc]
end
/-- Rows of three numbers: their cells. -/
def enc3 (l : List (Int × Int × Int)) : List Value := l.flatMap fun x => [.int .i64 x.1, .int .i64 x.2.1, .int .i64 x.2.2]
theorem enc3_len (l : List (Int × Int × Int)) : (enc3 l).length = l.length * 3 := by
  induction l with
  | nil => rfl
  | cons x l ih => simp only [enc3, List.flatMap_cons, List.length_append, List.length_cons, List.length_nil] at *; omega
theorem enc3_append (l m : List (Int × Int × Int)) : enc3 (l ++ m) = enc3 l ++ enc3 m := by simp [enc3]
theorem enc3_at : ∀ (l : List (Int × Int × Int)) (j : Nat) (x : Int × Int × Int), l[j]? = some x → (enc3 l)[j * 3]? = some (.int .i64 x.1) ∧ (enc3 l)[j * 3 + 1]? = some (.int .i64 x.2.1) ∧ (enc3 l)[j * 3 + 2]? = some (.int .i64 x.2.2)
  | [], j, x, h => by simp at h
  | y :: l, 0, x, h => by
    simp at h
    subst h
    exact ⟨rfl, rfl, rfl⟩
  | y :: l, j + 1, x, h => by
    have ih := enc3_at l j x (by simpa using h)
    have e : ∀ i, (enc3 (y :: l))[(j + 1) * 3 + i]? = (enc3 l)[j * 3 + i]? := fun i => by
      have : enc3 (y :: l) = [Value.int .i64 y.1, .int .i64 y.2.1, .int .i64 y.2.2] ++ enc3 l := rfl
      rw [this, List.getElem?_append_right (by simp; omega)]
      congr 1
      simp
      omega
    exact ⟨(e 0).trans ih.1, (e 1).trans ih.2.1, (e 2).trans ih.2.2⟩
theorem enc3_one (l : List (Int × Int × Int)) : ∀ u ∈ enc3 l, u.oneCell' = true := by
  intro u hu
  simp only [enc3, List.mem_flatMap] at hu
  obtain ⟨x, _, hx⟩ := hu
  simp only [List.mem_cons, List.not_mem_nil, or_false] at hx
  rcases hx with rfl | rfl | rfl <;> rfl
/-- A row of three numbers, in a block of its own type: where it lies (its room may be less than the block's). -/
def Row3 (e base : Nat) (w : World) (v : Value) (l : List (Int × Int × Int)) : Prop :=
  (v = .slice none 0 0 ∧ l = []) ∨ ∃ b cap cur, v = .slice (some ⟨b, 0, none⟩) l.length cap ∧ base ≤ b ∧ w.heap[b]? = some (.cells cur e (0, 0)) ∧ l.length ≤ cap ∧ cap * 3 ≤ cur.size ∧ ∀ (j : Nat) (u : Value), (enc3 l)[j]? = some u → cur[j]? = some u
section
variable {e base q sl : Nat} {w w' : World} {v : Value} {l : List (Int × Int × Int)}
theorem Row3.turn (h : Row3 e base w v l) (ht : Turn q base w w') (hq : e ≠ q) : Row3 e base w' v l := by
  rcases h with h | ⟨b, cap, cur, h1, h2, h3, h4, h5, h6⟩
  · exact .inl h
  · exact .inr ⟨b, cap, cur, h1, h2, ht.keep b cur e h3 hq, h4, h5, h6⟩
theorem Row3.slice (h : Row3 e base w v l) : ∃ A c, v = .slice A l.length c ∧ l.length ≤ c := by
  rcases h with ⟨rfl, rfl⟩ | ⟨b, cap, cur, h1, h2, h3, h4, h5, h6⟩
  · exact ⟨none, 0, rfl, Nat.le_refl _⟩
  · exact ⟨_, _, h1, h4⟩
theorem Row3.at (h : Row3 e base w v l) {j : Nat} {x : Int × Int × Int} (hj : l[j]? = some x) : ∃ b c, v = .slice (some ⟨b, 0, none⟩) l.length c ∧ l.length ≤ c ∧ w.cell? ⟨b, j * 3, none⟩ = some (.int .i64 x.1) ∧ w.cell? ⟨b, j * 3 + 1, none⟩ = some (.int .i64 x.2.1) ∧ w.cell? ⟨b, j * 3 + 2, none⟩ = some (.int .i64 x.2.2) := by
  rcases h with ⟨rfl, rfl⟩ | ⟨b, cap, cur, h1, h2, h3, h4, h5, h6⟩
  · simp at hj
  · obtain ⟨a1, a2, a3⟩ := enc3_at l j x hj
    exact ⟨b, cap, h1, h4, (blk_cell h3 _).trans (h6 _ _ a1), (blk_cell h3 _).trans (h6 _ _ a2), (blk_cell h3 _).trans (h6 _ _ a3)⟩
theorem row3_own {n : Nat} {base' : Nat} (h : w.ownsRow base' e 3 v n (enc3 l)) (hb : base ≤ base') (hl : n = l.length) : Row3 e base w v l := by
  subst hl
  obtain ⟨h1, h2⟩ := h
  rcases h2 with ⟨rfl, h3⟩ | ⟨g, cap, cur, rfl, hg, hh, hnc, hcm, hsz, ht⟩
  · exact .inl ⟨rfl, List.eq_nil_of_length_eq_zero h3⟩
  · refine .inr ⟨g, cap, cur, rfl, by omega, hh, hnc, by omega, fun j u hj => ?_⟩
    rw [← ht, List.getElem?_take] at hj
    split at hj
    · rwa [Array.getElem?_toList] at hj
    · cases hj
theorem Row3.append (hu : Try.prog.underlying sl = some (.slice e)) (hi : (Try.prog.info? e).map (fun i => (i.zero, i.size, i.bytes)) = some (some (.agg #[(.int .i64 0), (.int .i64 0), (.int .i64 0)]), 3, 24))
    (h : Row3 e base w v l) (hb : base ≤ w.heap.size) (x : Int × Int × Int) (ad : Addr) (hx : ∀ (j : Nat) (u : Value), (enc3 [x])[j]? = some u → w.cell? (ad.add j) = some u) (hl : l.length ≤ 1000000) (ty : TypeId) :
    ∃ v' w', (Builtin.append_ #[sl, sl] ty #[v, .slice (some ad) 1 1]).run Try.prog w = .ok v' w' ∧ Row3 e base w' v' (l ++ [x]) ∧ Turn e base w w' := by
  obtain ⟨i0, hi0, hzz⟩ := Option.map_eq_some_iff.1 hi
  simp only [Prod.mk.injEq] at hzz
  obtain ⟨hz0, hz1, hz2⟩ := hzz
  have hle := enc3_len l
  rcases h with ⟨rfl, rfl⟩ | ⟨b, cap, cur, rfl, h2, h3, h4, h5, h6⟩
  · obtain ⟨v', w', hr, ho, hg, _, _⟩ := run_append_own_at (P := Try.prog) w base sl ty e i0 _ 3 24 hu hi0 hz0 hz1 hz2 rfl (by decide) (.slice none 0 0) 0 [] ⟨rfl, .inl ⟨rfl, rfl⟩⟩ ad 1 1 (enc3 [x]) (by rw [enc3_len]; rfl) hx (enc3_one _) (by simp [maxLen]) (by omega) hb
    refine ⟨v', w', hr, row3_own (n := 0 + 1) (l := [] ++ [x]) ho (Nat.le_refl _) rfl, turn_grown hg hb (fun b hb' => by cases hb')⟩
  · have holds : ∀ (j : Nat) (u : Value), (enc3 l)[j]? = some u → w.cell? ((⟨b, 0, none⟩ : Addr).add j) = some u := fun j u hj => by
      rw [Addr.add_lit, Nat.zero_add]
      exact (blk_cell h3 _).trans (h6 j u hj)
    by_cases hc : cap < l.length + 1
    · obtain ⟨v', w', hr, ho, hg⟩ := run_append_arg_grows (P := Try.prog) w sl ty e i0 _ 3 24 hu hi0 hz0 hz1 hz2 rfl (by decide) ⟨b, 0, none⟩ l.length cap (enc3 l) hle holds ad 1 1 (enc3 [x]) (by rw [enc3_len]; rfl) hx hc (by simp [maxLen]; omega) (by omega)
      rw [← enc3_append] at ho
      exact ⟨v', w', hr, row3_own ho hb (by simp), turn_grown hg hb (fun b hb' => by cases hb')⟩
    · have hl3 : (enc3 [x]).length = 1 * i0.size := by rw [enc3_len, hz1]; rfl
      have h3l : (enc3 [x]).length = 3 := by rw [enc3_len]; rfl
      have hr := run_append_room_cells (P := Try.prog) w sl ty e i0 hu hi0 b 0 l.length cap ad 1 1 (enc3 [x]) hl3 hx (enc3_one _) (by omega) (fun j hj => by
        rw [hz1, blk_cell h3, Array.getElem?_eq_getElem (by omega)]
        rfl) (fun j hj => blk_frozen h3 _)
      rw [hz1] at hr
      obtain ⟨cur', k1, k2, k3⟩ := setCells_row (enc3 [x]) (0 + l.length * 3) w cur h3 (by omega)
      refine ⟨_, _, hr, .inr ⟨b, cap, cur', by simp, h2, k1, by simp; omega, by omega, fun j u hj => ?_⟩, turn_cells h3 h2 _ _⟩
      rw [← Array.getElem?_toList, k3]
      rw [enc3_append] at hj
      have htl : (cur.toList.take (0 + l.length * 3)).length = l.length * 3 := by simp only [List.length_take]; have : cur.toList.length = cur.size := rfl; omega
      by_cases hj1 : j < l.length * 3
      · rw [List.getElem?_append_left (by omega)] at hj
        rw [List.append_assoc, List.getElem?_append_left (by omega), List.getElem?_take_of_lt (by omega), Array.getElem?_toList]
        exact h6 j u hj
      · rw [List.getElem?_append_right (by omega), hle] at hj
        have hjl := (List.getElem?_eq_some_iff.1 hj).1
        rw [List.append_assoc, List.getElem?_append_right (by omega), htl, List.getElem?_append_left (by omega)]
        exact hj
/-- append(l[:k:k], l[k+1:]...) -/
theorem Row3.cut (hu : Try.prog.underlying sl = some (.slice e)) (hi : (Try.prog.info? e).map (fun i => (i.zero, i.size, i.bytes)) = some (some (.agg #[(.int .i64 0), (.int .i64 0), (.int .i64 0)]), 3, 24))
    {A : Option Addr} {c : Nat} (h : Row3 e base w (.slice A l.length c) l) (hb : base ≤ w.heap.size) (k : Nat) (hk : k < l.length) (hl : l.length ≤ 1000000) (ty : TypeId) :
    ∃ v' w', (Builtin.append_ #[sl, sl] ty #[.slice A k k, .slice (if c = k + 1 then A else A.map (·.add ((k + 1) * 3))) (l.length - (k + 1)) (c - (k + 1))]).run Try.prog w = .ok v' w' ∧ Row3 e base w' v' (l.take k ++ l.drop (k + 1)) ∧ Below w.heap.size w w' := by
  obtain ⟨i0, hi0, hzz⟩ := Option.map_eq_some_iff.1 hi
  simp only [Prod.mk.injEq] at hzz
  obtain ⟨hz0, hz1, hz2⟩ := hzz
  rcases h with ⟨h1, rfl⟩ | ⟨b, cap, cur, h1, h2, h3, h4, h5, h6⟩
  · simp at hk
  · injection h1 with h1 _ hcap
    subst h1
    subst hcap
    have hsplit : ∀ j, j ≤ l.length → enc3 l = enc3 (l.take j) ++ enc3 (l.drop j) := fun j _ => by rw [← enc3_append, List.take_append_drop]
    have htk : (enc3 (l.take k)).length = k * 3 := by rw [enc3_len, List.length_take]; omega
    have htk1 : (enc3 (l.take (k + 1))).length = (k + 1) * 3 := by rw [enc3_len, List.length_take]; omega
    have ht : ∀ (j : Nat) (u : Value), (enc3 (l.take k))[j]? = some u → cur[j]? = some u := fun j u hj => by
      refine h6 j u ?_
      rw [hsplit k (by omega), List.getElem?_append_left (List.getElem?_eq_some_iff.1 hj).1]
      exact hj
    have hd : ∀ (j : Nat) (u : Value), (enc3 (l.drop (k + 1)))[j]? = some u → cur[(k + 1) * 3 + j]? = some u := fun j u hj => by
      refine h6 _ u ?_
      rw [hsplit (k + 1) (by omega), List.getElem?_append_right (by omega), htk1]
      rw [show (k + 1) * 3 + j - (k + 1) * 3 = j by omega]
      exact hj
    by_cases hl1 : k + 1 = l.length
    · have hdr : l.drop (k + 1) = [] := List.drop_eq_nil_of_le (by omega)
      have h0 : l.length - (k + 1) = 0 := by omega
      rw [h0]
      refine ⟨_, _, run_append_nothing w sl sl ty e i0 hu hi0 (some ⟨b, 0, none⟩) k k (Nat.le_refl _) _ ?_, .inr ⟨b, k, cur, ?_, h2, h3, ?_, by omega, ?_⟩, Below.refl _ _⟩
      · by_cases hck : c = k + 1
        · rw [if_pos hck]
          exact Src.ofSlice w hu _ _ _ [] (by simp) (by intro j u h; simp at h) (by intro u h; simp at h)
        · rw [if_neg hck]
          exact Src.ofSlice w hu _ _ _ [] (by simp) (by intro j u h; simp at h) (by intro u h; simp at h)
      · rw [hdr, List.append_nil, List.length_take, Nat.min_eq_left (by omega)]
      · rw [hdr, List.append_nil, List.length_take]
        omega
      · rw [hdr, List.append_nil]
        exact ht
    · rw [if_neg (show ¬ c = k + 1 by omega)]
      simp only [Option.map_some]
      obtain ⟨v', w', hr, ho, hg⟩ := run_append_arg_grows (P := Try.prog) w sl ty e i0 _ 3 24 hu hi0 hz0 hz1 hz2 rfl (by decide) ⟨b, 0, none⟩ k k (enc3 (l.take k)) htk (fun j u hj => by
        rw [Addr.add_lit, Nat.zero_add]
        exact (blk_cell h3 _).trans (ht j u hj)) ((⟨b, 0, none⟩ : Addr).add ((k + 1) * 3)) (l.length - (k + 1)) (c - (k + 1)) (enc3 (l.drop (k + 1))) (by rw [enc3_len, List.length_drop]) (fun j u hj => by
        rw [Addr.add_lit, Addr.add_lit, Nat.zero_add]
        exact (blk_cell h3 _).trans (hd j u hj)) (by omega) (by simp [maxLen]; omega) (by omega)
      rw [← enc3_append] at ho
      refine ⟨v', w', hr, row3_own ho hb ?_, ⟨hg.os, hg.tape, hg.output, hg.size, fun b hb' => hg.block b hb' (by simp)⟩⟩
      rw [List.length_append, List.length_take, List.length_drop]
      omega
end
theorem info72 : (Try.prog.info? 72).map (fun i => (i.zero, i.size, i.bytes)) = some (some (.agg #[(.int .i64 0), (.int .i64 0), (.int .i64 0)]), 3, 24) := by kernel_rfl
theorem info75 : (Try.prog.info? 75).map (fun i => (i.zero, i.size, i.bytes)) = some (some (.agg #[(.int .i64 0), (.int .i64 0), (.int .i64 0)]), 3, 24) := by kernel_rfl
/-- 250 numbers. -/
def row250 (f : Int → Int) : Array Value := ((List.range 250).map fun j : Nat => Value.int .i64 (f j)).toArray
theorem row250_at (f : Int → Int) (j : Nat) (h : j < 250) : (row250 f)[j]? = some (.int .i64 (f j)) := by
  simp [row250, h]
theorem row250_put (f : Int → Int) (j : Nat) (v : Int) : (row250 f).setIfInBounds j (.int .i64 v) = row250 (fun r => if r = (j : Int) then v else f r) := by
  apply Array.ext_getElem?
  intro i
  rw [Array.getElem?_setIfInBounds]
  by_cases hi : i < 250
  · by_cases hij : j = i
    · subst hij
      rw [if_pos rfl, if_pos (by simp [row250]; exact hi), row250_at _ j hi]
      simp
    · rw [if_neg hij, row250_at _ i hi, row250_at _ i hi, if_neg (by omega)]
  · have hn : ∀ g, (row250 g)[i]? = none := fun g => by simp [row250]; omega
    rw [hn, hn]
    split
    · split
      · rename_i h1 h2
        subst h1
        simp [row250] at h2
        omega
      · rfl
    · rfl
def arrC (b : Nat) : Value := .slice (some ⟨b, 0, none⟩) 250 250
/-- The 28 cells of the whole. -/
structure Cells28 (cs : Array Value) (s : Ws) (vl vt vb : Value) (vw : Nat → Value) (bd bf : Nat → Nat) : Prop where
  sz : cs.size = 28
  c0 : cs[0]? = some vl
  ca : ∀ k, k < 4 → cs[1 + k * 4]? = some (.int .i64 (s.a k).id) ∧ cs[1 + k * 4 + 1]? = some (.int .i64 (s.a k).nx) ∧ cs[1 + k * 4 + 2]? = some (.int .i64 (s.a k).ak) ∧ cs[1 + k * 4 + 3]? = some (vw k)
  ct : cs[17]? = some vt
  cb : cs[18]? = some vb
  cd : ∀ k, k < 4 → cs[19 + k]? = some (arrC (bd k))
  cf : ∀ k, k < 4 → cs[23 + k]? = some (arrC (bf k))
  cc : cs[27]? = some (.int .i64 s.ctr)
structure Lay (base g : Nat) (w : World) (cs : Array Value) (s : Ws) (vl vt vb : Value) (vw : Nat → Value) (bd bf : Nat → Nat) : Prop where
  hg : w.heap[g]? = some (.cells cs 67 (0, 0))
  gb : base ≤ g
  bs : base ≤ w.heap.size
  cells : Cells28 cs s vl vt vb vw bd bf
  ol : Own k44 44 base w vl s.l
  ow : ∀ k, k < 4 → Own k70 70 base w (vw k) (s.a k).ws
  ot : Row3 72 base w vt s.tos
  ob : Row3 75 base w vb s.bks
  od : ∀ k, k < 4 → base ≤ bd k ∧ w.heap[bd k]? = some (.cells (row250 (s.did k)) 3 (0, 0))
  og : ∀ k, k < 4 → base ≤ bf k ∧ w.heap[bf k]? = some (.cells (row250 (s.got k)) 3 (0, 0))
  nd : ∀ i j, i < 4 → j < 4 → bd i ≠ bf j ∧ (i ≠ j → bd i ≠ bd j ∧ bf i ≠ bf j)
/-- The whole, somewhere. -/
def LayM (base g : Nat) (w : World) (s : Ws) : Prop := ∃ cs vl vt vb vw bd bf, Lay base g w cs s vl vt vb vw bd bf
end Go.Proofs.Ytafnjlgdjhegaaa.Pr
end
section
namespace Go.Proofs.Ytafnjlgdjhegaaa.Pr
open Go.RowKit Go.Proofs.YtafnjlgdjhegaaaW.PrintWords Go.Proofs.YtafnjlgdjhegaaaW.PrintLast
set_option linter.unusedVariables false
set_option linter.unusedSimpArgs false
theorem rd70_nat (l : List S70) (i : Nat) : rd_T70 l (i : Int) = l.getD i z70 := by simp [rd_T70]
theorem getD70_at (l : List S70) (i : Nat) (h : i < l.length) : l.getD i z70 = l[i] := by rw [List.getD_eq_getElem?_getD, List.getElem?_eq_getElem h]; rfl
theorem wrap_s (i : Nat) (h : i < 9223372036854775807) : wrap64 ((i : Int) + 1) = ((i + 1 : Nat) : Int) := by unfold wrap64; omega
/-- Is all of it small enough to be copied? -/
def small70 (l : List S70) : Prop := l.length < 4398046511104 ∧ ∀ x ∈ l, x.f1.length < 140737488355328
theorem waits_loop (l : List S70) (h : small70 l) (d : Nat) : ∀ i : Nat, l.length - i = d → i ≤ l.length → Ev (fun k => session_waits.l0 k (l.take i) l (l.length : Int) i) l := by
  have hlen := h.1
  induction d with
  | zero =>
    intro i hd hi
    refine Ev.step (f := fun _ => some l) (fun k => ?_) (Ev.now _)
    simp only [session_waits.l0]
    rw [if_neg (by omega), List.take_of_length_le (by omega)]
  | succ d ih =>
    intro i hd hi
    have hcl : slices_Clone_byte_byte.f (l.getD i z70).f1 = some (l.getD i z70).f1 := by
      unfold slices_Clone_byte_byte.f
      rw [if_pos]
      rw [getD70_at _ i (by omega)]
      exact h.2 _ (List.getElem_mem _)
    refine Ev.step (fun k => ?_) (ih (i + 1) (by omega) (by omega))
    simp only [session_waits.l0]
    rw [if_pos (by omega), if_pos (by omega), if_pos (by omega), rd70_nat, hcl, Option.bind_some, if_pos (by rw [List.length_take]; omega), wrap_s i (by omega), List.take_succ_eq_append_getElem (by omega), getD70_at _ i (by omega)]
theorem waits_ev (l : List S70) (h : small70 l) : Ev (fun k => session_waits.f k l) l := waits_loop l h _ 0 rfl (by omega)
/-- What Ask tells. -/
def askS (id nx ak : Int) (l : List S70) (body : List Int) : Int × Int × Int × List S70 × Int × Int :=
  if askerB id nx ak l = true then
    if (body.length : Int) > 65536 then (0, 0, 0, [], 0, 3)
    else if nx - 1 - ak ≥ 8 then (0, 0, 0, [], 0, 7)
    else if nx = 4611686018427387904 then (0, 0, 0, [], 0, 5)
    else (id, nx + 1, ak, l ++ [⟨nx, body⟩], nx, 0)
  else (0, 0, 0, [], 0, 2)
theorem asker_more {id nx ak : Int} {l : List S70} (h : askerB id nx ak l = true) : (1 ≤ nx ∧ nx ≤ 4611686018427387904) ∧ (0 ≤ ak ∧ ak < 4611686018427387904) ∧ nx - 1 - ak ≤ 8 ∧ ∀ x ∈ l, 0 < x.f0 ∧ x.f0 ≤ 4611686018427387904 := by
  obtain ⟨h1, h2⟩ := asker_parts h
  have hm : ∀ x ∈ l, 0 < x.f0 ∧ x.f0 ≤ 4611686018427387904 := fun x hx => rises_mem h2 x.f0 (List.mem_map.2 ⟨x, hx, rfl⟩)
  unfold askerB at h
  simp only [Bool.and_eq_true, decide_eq_true_eq] at h
  have hak : ak = ackP nx l := h.1.2
  have hb : 0 ≤ ackP nx l ∧ ackP nx l < 4611686018427387904 := by
    cases l with
    | nil => simp only [ackP]; omega
    | cons x l => have := hm x (by simp); simp only [ackP]; omega
  refine ⟨h1, by rw [hak]; exact hb, h.2, hm⟩
theorem rightA_is {id nx ak : Int} {l : List S70} (hak : i64 ak) : session_RightAsker.f id nx ak l = some (askerB id nx ak l) := by
  unfold session_RightAsker.f
  rw [if_pos]
  unfold i64D
  obtain ⟨h1, h2⟩ := hak
  simp [h1, h2]
theorem ask_ev (id nx ak : Int) (l : List S70) (body : List Int) (hs : small70 l) (hak : i64 ak) (hb : body.length < 140737488355328) : Ev (fun k => session_Ask.f k id nx ak l body) (askS id nx ak l body) := by
  obtain ⟨K, hK0⟩ := waits_ev l hs
  have hK : ∀ k, K ≤ k → session_waits.f k l = some l := hK0
  refine ⟨K, fun k hk => ?_⟩
  show session_Ask.f k id nx ak l body = _
  unfold session_Ask.f askS
  rw [rightA_is hak, Option.bind_some]
  by_cases c : askerB id nx ak l = true
  · obtain ⟨h1, h2, h3, h4⟩ := asker_more c
    rw [if_pos c, if_pos c]
    by_cases c1 : (body.length : Int) > 65536
    · rw [if_pos c1, if_pos c1]
    · rw [if_neg c1, if_neg c1]
      have hw : wrap64 (wrap64 (nx - 1) - ak) = nx - 1 - ak := by unfold wrap64; omega
      rw [hw]
      by_cases c2 : nx - 1 - ak ≥ 8
      · rw [if_pos c2, if_pos c2]
      · rw [if_neg c2, if_neg c2]
        by_cases c3 : nx = 4611686018427387904
        · rw [if_pos c3, if_pos c3]
        · have hcl : slices_Clone_byte_byte.f body = some body := by unfold slices_Clone_byte_byte.f; rw [if_pos hb]
          have hw2 : wrap64 (nx + 1) = nx + 1 := by unfold wrap64; omega
          rw [if_neg c3, if_neg c3, hK k hk, Option.bind_some, hcl, Option.bind_some, if_pos hs.1, hw2]
  · rw [if_neg c, if_neg c]
end Go.Proofs.Ytafnjlgdjhegaaa.Pr
end
section
namespace Go.Proofs.Ytafnjlgdjhegaaa.Pr
open Go.RowKit Go.Proofs.YtafnjlgdjhegaaaW.PrintWords Go.Proofs.YtafnjlgdjhegaaaW.PrintLast Go.Proofs.YtafnjlgdjhegaaaW.PrintMore Go.Proofs.YtafnjlgdjhegaaaG
set_option linter.unusedVariables false
set_option linter.unusedSimpArgs false
theorem set_ne {cs : Array Value} {o i : Nat} (v : Value) (h : o ≠ i) : (cs.setIfInBounds o v)[i]? = cs[i]? := by
  rw [Array.getElem?_setIfInBounds, if_neg h]
theorem set_eq {cs : Array Value} {o : Nat} (v : Value) (h : o < cs.size) : (cs.setIfInBounds o v)[o]? = some v := by
  rw [Array.getElem?_setIfInBounds, if_pos rfl, if_pos h]
section
variable {cs : Array Value} {s : Ws} {vl vt vb v : Value} {vw : Nat → Value} {bd bf : Nat → Nat}
theorem Cells28.set_l (h : Cells28 cs s vl vt vb vw bd bf) (v : Value) (l : List S44) : Cells28 (cs.setIfInBounds 0 v) { s with l := l } v vt vb vw bd bf := by
  have hs := h.sz
  exact ⟨by simp [hs], set_eq v (by omega), fun k hk => by
    obtain ⟨h1, h2, h3, h4⟩ := h.ca k hk
    exact ⟨(set_ne v (by omega)).trans h1, (set_ne v (by omega)).trans h2, (set_ne v (by omega)).trans h3, (set_ne v (by omega)).trans h4⟩,
    (set_ne v (by omega)).trans h.ct, (set_ne v (by omega)).trans h.cb, fun k hk => (set_ne v (by omega)).trans (h.cd k hk), fun k hk => (set_ne v (by omega)).trans (h.cf k hk), (set_ne v (by omega)).trans h.cc⟩
theorem Cells28.set_t (h : Cells28 cs s vl vt vb vw bd bf) (v : Value) (l : List (Int × Int × Int)) : Cells28 (cs.setIfInBounds 17 v) { s with tos := l } vl v vb vw bd bf := by
  have hs := h.sz
  exact ⟨by simp [hs], (set_ne v (by omega)).trans h.c0, fun k hk => by
    obtain ⟨h1, h2, h3, h4⟩ := h.ca k hk
    exact ⟨(set_ne v (by omega)).trans h1, (set_ne v (by omega)).trans h2, (set_ne v (by omega)).trans h3, (set_ne v (by omega)).trans h4⟩,
    set_eq v (by omega), (set_ne v (by omega)).trans h.cb, fun k hk => (set_ne v (by omega)).trans (h.cd k hk), fun k hk => (set_ne v (by omega)).trans (h.cf k hk), (set_ne v (by omega)).trans h.cc⟩
theorem Cells28.set_b (h : Cells28 cs s vl vt vb vw bd bf) (v : Value) (l : List (Int × Int × Int)) : Cells28 (cs.setIfInBounds 18 v) { s with bks := l } vl vt v vw bd bf := by
  have hs := h.sz
  exact ⟨by simp [hs], (set_ne v (by omega)).trans h.c0, fun k hk => by
    obtain ⟨h1, h2, h3, h4⟩ := h.ca k hk
    exact ⟨(set_ne v (by omega)).trans h1, (set_ne v (by omega)).trans h2, (set_ne v (by omega)).trans h3, (set_ne v (by omega)).trans h4⟩,
    (set_ne v (by omega)).trans h.ct, set_eq v (by omega), fun k hk => (set_ne v (by omega)).trans (h.cd k hk), fun k hk => (set_ne v (by omega)).trans (h.cf k hk), (set_ne v (by omega)).trans h.cc⟩
theorem Cells28.set_c (h : Cells28 cs s vl vt vb vw bd bf) (c : Int) : Cells28 (cs.setIfInBounds 27 (.int .i64 c)) { s with ctr := c } vl vt vb vw bd bf := by
  have hs := h.sz
  exact ⟨by simp [hs], (set_ne _ (by omega)).trans h.c0, fun k hk => by
    obtain ⟨h1, h2, h3, h4⟩ := h.ca k hk
    exact ⟨(set_ne _ (by omega)).trans h1, (set_ne _ (by omega)).trans h2, (set_ne _ (by omega)).trans h3, (set_ne _ (by omega)).trans h4⟩,
    (set_ne _ (by omega)).trans h.ct, (set_ne _ (by omega)).trans h.cb, fun k hk => (set_ne _ (by omega)).trans (h.cd k hk), fun k hk => (set_ne _ (by omega)).trans (h.cf k hk), set_eq _ (by omega)⟩
def cells4 (x : Ak) (v : Value) : List Value := [.int .i64 x.id, .int .i64 x.nx, .int .i64 x.ak, v]
def set4 (cs : Array Value) (o : Nat) (x : Ak) (v : Value) : Array Value := (((cs.setIfInBounds o (.int .i64 x.id)).setIfInBounds (o + 1) (.int .i64 x.nx)).setIfInBounds (o + 1 + 1) (.int .i64 x.ak)).setIfInBounds (o + 1 + 1 + 1) v
theorem set4_ne {o i : Nat} (x : Ak) (v : Value) (h : i < o ∨ o + 4 ≤ i) : (set4 cs o x v)[i]? = cs[i]? := by
  unfold set4
  rw [set_ne _ (by omega), set_ne _ (by omega), set_ne _ (by omega), set_ne _ (by omega)]
theorem set4_eq {o : Nat} (x : Ak) (v : Value) (h : o + 4 ≤ cs.size) : (set4 cs o x v)[o]? = some (.int .i64 x.id) ∧ (set4 cs o x v)[o + 1]? = some (.int .i64 x.nx) ∧ (set4 cs o x v)[o + 2]? = some (.int .i64 x.ak) ∧ (set4 cs o x v)[o + 3]? = some v := by
  unfold set4
  refine ⟨?_, ?_, ?_, ?_⟩
  · rw [set_ne _ (by omega), set_ne _ (by omega), set_ne _ (by omega), set_eq _ (by omega)]
  · rw [set_ne _ (by omega), set_ne _ (by omega), set_eq _ (by simp; omega)]
  · rw [set_ne _ (by omega), set_eq _ (by simp; omega)]
  · rw [set_eq _ (by simp; omega)]
theorem Cells28.set_a (h : Cells28 cs s vl vt vb vw bd bf) {k : Nat} (hk : k < 4) (x : Ak) (v : Value) : Cells28 (set4 cs (1 + k * 4) x v) { s with a := setA s.a k x } vl vt vb (fun j => if j = k then v else vw j) bd bf := by
  have hs := h.sz
  refine ⟨by simp [set4, hs], (set4_ne _ _ (by omega)).trans h.c0, fun j hj => ?_, (set4_ne _ _ (by omega)).trans h.ct, (set4_ne _ _ (by omega)).trans h.cb, fun j hj => (set4_ne _ _ (by omega)).trans (h.cd j hj), fun j hj => (set4_ne _ _ (by omega)).trans (h.cf j hj), (set4_ne _ _ (by omega)).trans h.cc⟩
  by_cases hjk : j = k
  · subst hjk
    simp only [setA, if_true]
    exact set4_eq x v (by omega)
  · simp only [setA, if_neg hjk]
    obtain ⟨h1, h2, h3, h4⟩ := h.ca j hj
    have hd : j < k ∨ k < j := by omega
    exact ⟨(set4_ne _ _ (by omega)).trans h1, (set4_ne _ _ (by omega)).trans h2, (set4_ne _ _ (by omega)).trans h3, (set4_ne _ _ (by omega)).trans h4⟩
theorem Cells28.arr (h : Cells28 cs s vl vt vb vw bd bf) (d f : Nat → Int → Int) : Cells28 cs { s with did := d, got := f } vl vt vb vw bd bf := ⟨h.sz, h.c0, h.ca, h.ct, h.cb, h.cd, h.cf, h.cc⟩
end
theorem k44_E : ∀ q, q ∈ (44 : Nat) :: k44.E → q = 44 ∨ q = 46 ∨ q = 5 := by decide
theorem k70_E : ∀ q, q ∈ (70 : Nat) :: k70.E → q = 70 ∨ q = 5 := by decide
section
variable {base g : Nat} {w w' : World} {cs : Array Value} {s : Ws} {vl vt vb v : Value} {vw : Nat → Value} {bd bf : Nat → Nat}
theorem Lay.below (h : Lay base g w cs s vl vt vb vw bd bf) (hb : Below w.heap.size w w') : Lay base g w' cs s vl vt vb vw bd bf := by
  have T : ∀ q, Turn q base w w' := fun q => turn_below h.bs hb
  have hz := hb.size
  exact ⟨blk_below h.hg hb, h.gb, by have := h.bs; omega, h.cells, h.ol.turn (T 67) (fun q hq => by have := k44_E q hq; omega), fun k hk => (h.ow k hk).turn (T 67) (fun q hq => by have := k70_E q hq; omega), h.ot.turn (T 67) (by decide), h.ob.turn (T 67) (by decide), fun k hk => ⟨(h.od k hk).1, (T 67).keep _ _ _ (h.od k hk).2 (by decide)⟩, fun k hk => ⟨(h.og k hk).1, (T 67).keep _ _ _ (h.og k hk).2 (by decide)⟩, h.nd⟩
/-- The rest of the whole, behind a store into the box itself. -/
theorem Lay.box (h : Lay base g w cs s vl vt vb vw bd bf) {w' : World} (T : Turn 67 base w w') {cs' : Array Value} (hg : w'.heap[g]? = some (.cells cs' 67 (0, 0))) {s' : Ws} {vl' vt' vb' : Value} {vw' : Nat → Value} (hc : Cells28 cs' s' vl' vt' vb' vw' bd bf)
    (ol : Own k44 44 base w' vl' s'.l) (ow : ∀ k, k < 4 → Own k70 70 base w' (vw' k) (s'.a k).ws) (ot : Row3 72 base w' vt' s'.tos) (ob : Row3 75 base w' vb' s'.bks) (ed : s'.did = s.did) (eg : s'.got = s.got) : Lay base g w' cs' s' vl' vt' vb' vw' bd bf := by
  have hz := T.below.size
  exact ⟨hg, h.gb, by have := h.bs; omega, hc, ol, ow, ot, ob, fun k hk => ⟨(h.od k hk).1, by rw [ed]; exact T.keep _ _ _ (h.od k hk).2 (by decide)⟩, fun k hk => ⟨(h.og k hk).1, by rw [eg]; exact T.keep _ _ _ (h.og k hk).2 (by decide)⟩, h.nd⟩
theorem k44_67 : ∀ q, q ∈ (44 : Nat) :: k44.E → q ≠ 67 := fun q hq => by have := k44_E q hq; omega
theorem k70_67 : ∀ q, q ∈ (70 : Nat) :: k70.E → q ≠ 67 := fun q hq => by have := k70_E q hq; omega
theorem Lay.put_l (h : Lay base g w cs s vl vt vb vw bd bf) {l : List S44} (hv : Own k44 44 base w v l) : Lay base g (w.setCell ⟨g, 0, none⟩ v) (cs.setIfInBounds 0 v) { s with l := l } v vt vb vw bd bf := by
  have T := turn_set (j := 0) h.hg h.gb v
  exact h.box T (blk_set h.hg 0 v) (h.cells.set_l v l) (hv.turn T k44_67) (fun k hk => (h.ow k hk).turn T k70_67) (h.ot.turn T (by decide)) (h.ob.turn T (by decide)) rfl rfl
theorem Lay.put_c (h : Lay base g w cs s vl vt vb vw bd bf) (c : Int) : Lay base g (w.setCell ⟨g, 27, none⟩ (.int .i64 c)) (cs.setIfInBounds 27 (.int .i64 c)) { s with ctr := c } vl vt vb vw bd bf := by
  have T := turn_set (j := 27) h.hg h.gb (.int .i64 c)
  exact h.box T (blk_set h.hg 27 _) (h.cells.set_c c) (h.ol.turn T k44_67) (fun k hk => (h.ow k hk).turn T k70_67) (h.ot.turn T (by decide)) (h.ob.turn T (by decide)) rfl rfl
theorem Lay.put_a (h : Lay base g w cs s vl vt vb vw bd bf) {k : Nat} (hk : k < 4) {x : Ak} (hv : Own k70 70 base w v x.ws) : Lay base g (w.setCells g (1 + k * 4) (cells4 x v)) (set4 cs (1 + k * 4) x v) { s with a := setA s.a k x } vl vt vb (fun j => if j = k then v else vw j) bd bf := by
  have T := turn_cells h.hg h.gb (1 + k * 4) (cells4 x v)
  refine h.box T (blk_set (blk_set (blk_set (blk_set h.hg _ _) _ _) _ _) _ _) (h.cells.set_a hk x v) (h.ol.turn T k44_67) (fun j hj => ?_) (h.ot.turn T (by decide)) (h.ob.turn T (by decide)) rfl rfl
  by_cases hjk : j = k
  · subst hjk
    simp only [setA, if_true]
    exact hv.turn T k70_67
  · simp only [setA, if_neg hjk]
    exact (h.ow j hj).turn T k70_67
/-- append(w.to, x), then the store. -/
theorem Lay.put_t (h : Lay base g w cs s vl vt vb vw bd bf) (Ta : Turn 72 base w w') {l : List (Int × Int × Int)} (hv : Row3 72 base w' v l) : Lay base g (w'.setCell ⟨g, 17, none⟩ v) (cs.setIfInBounds 17 v) { s with tos := l } vl v vb vw bd bf := by
  have hz := Ta.below.size
  have hg' := Ta.keep _ _ _ h.hg (by decide)
  have T := turn_set (j := 17) hg' h.gb v
  have hb := h.bs
  refine ⟨blk_set hg' 17 v, h.gb, by simp [World.setCell]; omega, h.cells.set_t v l, (h.ol.turn Ta (fun q hq => by have := k44_E q hq; omega)).turn T k44_67, fun k hk => ((h.ow k hk).turn Ta (fun q hq => by have := k70_E q hq; omega)).turn T k70_67, hv.turn T (by decide), (h.ob.turn Ta (by decide)).turn T (by decide), fun k hk => ⟨(h.od k hk).1, T.keep _ _ _ (Ta.keep _ _ _ (h.od k hk).2 (by decide)) (by decide)⟩, fun k hk => ⟨(h.og k hk).1, T.keep _ _ _ (Ta.keep _ _ _ (h.og k hk).2 (by decide)) (by decide)⟩, h.nd⟩
theorem Lay.put_b (h : Lay base g w cs s vl vt vb vw bd bf) (Ta : Turn 75 base w w') {l : List (Int × Int × Int)} (hv : Row3 75 base w' v l) : Lay base g (w'.setCell ⟨g, 18, none⟩ v) (cs.setIfInBounds 18 v) { s with bks := l } vl vt v vw bd bf := by
  have hz := Ta.below.size
  have hg' := Ta.keep _ _ _ h.hg (by decide)
  have T := turn_set (j := 18) hg' h.gb v
  have hb := h.bs
  refine ⟨blk_set hg' 18 v, h.gb, by simp [World.setCell]; omega, h.cells.set_b v l, (h.ol.turn Ta (fun q hq => by have := k44_E q hq; omega)).turn T k44_67, fun k hk => ((h.ow k hk).turn Ta (fun q hq => by have := k70_E q hq; omega)).turn T k70_67, (h.ot.turn Ta (by decide)).turn T (by decide), hv.turn T (by decide), fun k hk => ⟨(h.od k hk).1, T.keep _ _ _ (Ta.keep _ _ _ (h.od k hk).2 (by decide)) (by decide)⟩, fun k hk => ⟨(h.og k hk).1, T.keep _ _ _ (Ta.keep _ _ _ (h.og k hk).2 (by decide)) (by decide)⟩, h.nd⟩
theorem put2_row (f : Nat → Int → Int) (k : Nat) (r : Nat) (x : Int) : (fun q : Int => if q = (r : Int) then x else f k q) = put2 f k (r : Int) x k := by
  funext q
  simp [put2]
theorem put2_far (f : Nat → Int → Int) {j k : Nat} (h : j ≠ k) (r x : Int) : put2 f k r x j = f j := by
  funext q
  simp [put2, h]
theorem Lay.put_d (h : Lay base g w cs s vl vt vb vw bd bf) {k : Nat} (hk : k < 4) (r : Nat) (x : Int) : Lay base g (w.setCell ⟨bd k, r, none⟩ (.int .i64 x)) cs { s with did := put2 s.did k (r : Int) x } vl vt vb vw bd bf := by
  have hd := h.od k hk
  have T := turn_set (j := r) hd.2 hd.1 (.int .i64 x)
  have hb := h.bs
  refine ⟨T.keep _ _ _ h.hg (by decide), h.gb, by simp [World.setCell]; omega, h.cells.arr _ _, h.ol.turn T (fun q hq => by have := k44_E q hq; omega), fun j hj => (h.ow j hj).turn T (fun q hq => by have := k70_E q hq; omega), h.ot.turn T (by decide), h.ob.turn T (by decide), fun j hj => ⟨(h.od j hj).1, ?_⟩, fun j hj => ⟨(h.og j hj).1, blk_far (h.og j hj).2 (fun e => (h.nd k j hk hj).1 e.symm) _⟩, h.nd⟩
  by_cases hjk : j = k
  · subst hjk
    have := blk_set hd.2 r (.int .i64 x)
    rw [row250_put, put2_row] at this
    exact this
  · show _ = some (Obj.cells (row250 (put2 s.did k (r : Int) x j)) 3 (0, 0))
    rw [put2_far s.did hjk]
    exact blk_far (h.od j hj).2 ((h.nd j k hj hk).2 hjk).1 _
theorem Lay.put_g (h : Lay base g w cs s vl vt vb vw bd bf) {k : Nat} (hk : k < 4) (r : Nat) (x : Int) : Lay base g (w.setCell ⟨bf k, r, none⟩ (.int .i64 x)) cs { s with got := put2 s.got k (r : Int) x } vl vt vb vw bd bf := by
  have hd := h.og k hk
  have T := turn_set (j := r) hd.2 hd.1 (.int .i64 x)
  have hb := h.bs
  refine ⟨T.keep _ _ _ h.hg (by decide), h.gb, by simp [World.setCell]; omega, h.cells.arr _ _, h.ol.turn T (fun q hq => by have := k44_E q hq; omega), fun j hj => (h.ow j hj).turn T (fun q hq => by have := k70_E q hq; omega), h.ot.turn T (by decide), h.ob.turn T (by decide), fun j hj => ⟨(h.od j hj).1, blk_far (h.od j hj).2 (h.nd j k hj hk).1 _⟩, fun j hj => ⟨(h.og j hj).1, ?_⟩, h.nd⟩
  by_cases hjk : j = k
  · subst hjk
    have := blk_set hd.2 r (.int .i64 x)
    rw [row250_put, put2_row] at this
    exact this
  · show _ = some (Obj.cells (row250 (put2 s.got k (r : Int) x j)) 3 (0, 0))
    rw [put2_far s.got hjk]
    exact blk_far (h.og j hj).2 ((h.nd j k hj hk).2 hjk).2 _
end
theorem there_blk {w : World} {b o n : Nat} {cs : Array Value} {t : TypeId} (h : w.heap[b]? = some (.cells cs t (0, 0))) (ho : o + n ≤ cs.size) : w.there b o n := fun j hj => by
  refine ⟨?_, blk_frozen h _⟩
  rw [blk_cell h, Array.getElem?_eq_getElem (by omega)]
  rfl
section
variable {P : Program} {ops : Array Oper} {Q : Exit → Act → World → Prop}
/-- A store of a struct into the middle of a block, in a region that draws its order. -/
theorem store_mid_ {oi : Oper} {a : Act} {w : World} {K : Act → World → Prop} (ty : TypeId) (x y : Operand) (hop : oi.op = .store ty x y) (hw : Region.wanted oi (yielded ops a.tmps) = true) (hN : oi.dst = none)
    (b o : Nat) (cells : Array Value) (hx : a.eval x = .pointer (some ⟨b, o, none⟩)) (hy : a.eval y = .agg cells) (ht : w.there b o cells.size) (hi : (P.info? ty).map (·.size) = some cells.size) (h1 : cells.all (·.oneCell') = true)
    (h : K a (w.setCells b o cells.toList)) : if Region.wanted oi (yielded ops a.tmps) = true then Oper.wp P oi a w K Q else K (a.put none undef) w := by
  refine skip_ hw hN ?_ h
  unfold execOp
  simp only [hop, hx, hy, Instr.storeAt, Instr.sureAddr, Sem.run_bind, Sem.run_pure, Result.andThen_ok, run_storeVar_mid w b o ty cells ht hi h1]
end
theorem small_ws {s : Ws} {n : Int} (h : InvO s n) (hn : n ≤ 200) {k : Nat} (hk : k < 4) (hb : ∀ x ∈ (s.a k).ws, x.f1.length ≤ 1) : small70 (s.a k).ws := by
  obtain ⟨c, hc⟩ := h.each k hk
  obtain ⟨a1, a2, a3, a4, a5, a6⟩ := asker_iff.1 hc.asker
  refine ⟨?_, fun x hx => by have := hb x hx; omega⟩
  have hnx := h.nxs k hk
  have := few_rise ((s.a k).ws.map S70.f0) 0 (s.a k).nx a3 (fun x hx => by obtain ⟨y, hy, rfl⟩ := List.mem_map.1 hx; have := a4 y hy; omega) (by omega)
  rw [List.length_map] at this
  have h2 := a2.2
  omega
theorem Own.lower {α : Type} {d : Kd α} {e base b' : Nat} {w : World} {v : Value} {xs : List α} (h : Own d e b' w v xs) (hb : base ≤ b') : Own d e base w v xs := by
  obtain ⟨b, h⟩ := h
  exact ⟨b, Kd.R_mono h (fun k hk => Nat.le_trans hb hk)⟩
/-- A private box of askers is written: the rest stays. -/
theorem Lay.turn50 {base g : Nat} {w w' : World} {cs : Array Value} {s : Ws} {vl vt vb : Value} {vw : Nat → Value} {bd bf : Nat → Nat} (h : Lay base g w cs s vl vt vb vw bd bf) (T : Turn 50 base w w') : Lay base g w' cs s vl vt vb vw bd bf := by
  have hz := T.below.size
  exact ⟨T.keep _ _ _ h.hg (by decide), h.gb, by have := h.bs; omega, h.cells, h.ol.turn T (fun q hq => by have := k44_E q hq; omega), fun k hk => (h.ow k hk).turn T (fun q hq => by have := k70_E q hq; omega), h.ot.turn T (by decide), h.ob.turn T (by decide), fun k hk => ⟨(h.od k hk).1, T.keep _ _ _ (h.od k hk).2 (by decide)⟩, fun k hk => ⟨(h.og k hk).1, T.keep _ _ _ (h.og k hk).2 (by decide)⟩, h.nd⟩
theorem turn_row {t base g : Nat} {w : World} {cells : Array Value} (hg : w.heap[g]? = some (.cells cells t (0, 0))) (hb : base ≤ g) (cs : Array Value) : Turn t base w (w.setRow g cs) := by
  refine ⟨below_setRow (Below.refl base w) hb cs, fun k cs' t' hk ht => ?_⟩
  rw [setRow_other w g k cs (fun e => ?_)]
  · exact hk
  · subst e
    rw [hg] at hk
    injection hk with hk
    injection hk with h1 h2 h3
    exact ht h2.symm
section
variable {P : Program} {ops : Array Oper} {Q : Exit → Act → World → Prop}
/-- A store of a whole struct into its own block, in a region that draws its order. -/
theorem store_row_ {oi : Oper} {a : Act} {w : World} {K : Act → World → Prop} (ty : TypeId) (x y : Operand) (hop : oi.op = .store ty x y) (hw : Region.wanted oi (yielded ops a.tmps) = true) (hN : oi.dst = none)
    (g : Nat) (cells : Array Value) (hx : a.eval x = .pointer (some ⟨g, 0, none⟩)) (hy : a.eval y = .agg cells) (t : TypeId) (old : Array Value) (hg : w.heap[g]? = some (.cells old t (0, 0))) (hi : (P.info? ty).map (·.size) = some cells.size) (hold : old.size = cells.size) (h1 : cells.all (·.oneCell') = true)
    (h : K a (w.setRow g cells)) : if Region.wanted oi (yielded ops a.tmps) = true then Oper.wp P oi a w K Q else K (a.put none undef) w := by
  refine skip_ hw hN ?_ h
  unfold execOp
  simp only [hop, hx, hy, Instr.storeAt, Instr.sureAddr, Sem.run_bind, Sem.run_pure, Result.andThen_ok, run_storeVar_row w g t ty old cells hg hi hold h1]
end
section
variable {P : Program} {ops : Array Oper} {Q : Exit → Act → World → Prop}
/-- A store of one cell, in a plain region. -/
theorem wpList_store1 {rest : List Oper} {op : Oper} {a : Act} {w : World} (hgd : op.guard = none) (ty : TypeId) (x y : Operand) (ho : op.op = .store ty x y) (g o : Nat) (v : Value) (hx : a.eval x = .pointer (some ⟨g, o, none⟩)) (hy : a.eval y = v)
    (hrun : (Instr.storeAt ty (.pointer (some ⟨g, o, none⟩)) v).run P w = .ok () (w.setCell ⟨g, o, none⟩ v)) (h : wpList P ops Q rest (a.put op.dst undef) (w.setCell ⟨g, o, none⟩ v)) : wpList P ops Q (op :: rest) a w := by
  refine wpList_plain hgd fun K hK => ?_
  unfold Oper.wp execOp
  simp only [ho, hx, hy, Sem.run_bind, Sem.run_pure, hrun, Result.andThen_ok]
  exact hK _ _ h
end
theorem wrap_id {x : Int} (h : -9223372036854775808 ≤ x ∧ x ≤ 9223372036854775807) : IntKind.i64.wrap x = x := by
  rw [i64_w]
  unfold wrap64
  omega
theorem wrap64_id {x : Int} (h : -9223372036854775808 ≤ x ∧ x ≤ 9223372036854775807) : wrap64 x = x := by
  unfold wrap64
  omega
theorem bits_or0 {x : Int} (h1 : 0 ≤ x) (h2 : x ≤ 250) : bits BinOp.or IntKind.i64 0 x = x := by
  have h : ∀ n : Nat, n < 251 → bits BinOp.or IntKind.i64 0 (n : Int) = (n : Int) := by decide +kernel
  have := h x.toNat (by omega)
  rwa [show ((x.toNat : Nat) : Int) = x by omega] at this
theorem bytes_C {w : World} {g : Nat} {x y : Int} (h : w.heap[g]? = some (.cells #[.int .u8 x, .int .u8 y] 5 (0, 0))) : Kd.C (Kd.int .u8) w (some ⟨g, 0, none⟩) [x, y].length [x, y] := by
  refine ⟨rfl, by simp, fun _ => ⟨⟨g, 0, none⟩, rfl, fun j p hj => ?_⟩⟩
  have hl := (List.getElem?_eq_some_iff.1 hj).1
  refine ⟨[.int .u8 p], rfl, rfl, fun i u hu => ?_⟩
  have hi : i = 0 := by
    have := (List.getElem?_eq_some_iff.1 hu).1
    simp at this
    exact this
  subst hi
  simp at hu
  subst hu
  rw [Addr.add_lit, blk_cell h]
  have hj2 : j < 2 := hl
  match j, hj2, hj with
  | 0, _, hj => simpa using hj
  | 1, _, hj =>
    have e : y = p := by simpa using hj
    subst e
    rfl
theorem wrap8_id {x : Int} (h : 0 ≤ x ∧ x ≤ 255) : IntKind.u8.wrap x = x := by
  rw [IntKind.wrap_u8]
  omega
theorem two_bytes {w : World} {b : Nat} {x y : Int} (h : Kd.C (Kd.int .u8) w (some ⟨b, 0, none⟩) 2 [x, y]) : w.cell? ⟨b, 0, none⟩ = some (.int .u8 x) ∧ w.cell? ⟨b, 1, none⟩ = some (.int .u8 y) := by
  obtain ⟨ad, e, h0⟩ := Kd.at_int h (0 : Int) (by omega) (by omega)
  cases e
  obtain ⟨ad, e, h1⟩ := Kd.at_int h (1 : Int) (by omega) (by omega)
  cases e
  rw [Addr.add_lit] at h0 h1
  exact ⟨h0, h1⟩
/-- Take, of an asker that is right. -/
theorem take_good {id nx ak rq : Int} {A : Option Addr} {c : Nat} {ws : List S70} {kk : Nat} {w : World} (hr : Kd.C k70 w A ws.length ws) (hc : ws.length ≤ c) (hak : i64 ak) (hrq : i64 rq) (hl : ws.length < 4398046511104) (hw : session_waits.f kk ws = some ws) (hask : askerB id nx ak ws = true) :
    Calls Try.prog 23 #[.agg #[.int .i64 id, .int .i64 nx, .int .i64 ak, .slice A ws.length c], .int .i64 rq] w fun e w' => ∃ A' c', e = .returned (.tuple #[.agg #[.int .i64 id, .int .i64 nx, .int .i64 (ackP nx (takeL ws rq)), .slice A' (takeL ws rq).length c'], .bool (hasL ws rq), .int .i64 0]) ∧ Own k70 70 w.heap.size w' (.slice A' (takeL ws rq).length c') (takeL ws rq) ∧ Below w.heap.size w w' := by
  have h := take_R id nx ak rq A c ws kk w hr hc hak hrq hl hw
  rw [show takeS id nx ak ws rq = (id, nx, ackP nx (takeL ws rq), takeL ws rq, hasL ws rq, 0) from by unfold takeS; rw [if_pos hask]] at h
  exact h
end Go.Proofs.Ytafnjlgdjhegaaa.Pr
end
