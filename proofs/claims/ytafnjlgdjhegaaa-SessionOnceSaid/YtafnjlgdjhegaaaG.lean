/-
  Words of this session, over any program: a copy into a row that is known whole, whatever the elements' size (with the walk's forms of it); an owned row under its block's name; small facts on worlds.
-/
import Derived.WalkKit
import Derived.WalkSpells
import Derived.Laws.CopyOwn
import Derived.Laws.OwnMore
import Derived.Deep.RegionLaw
import Derived.Deep.Draws
import Derived.Lib.Overlaps
import Derived.Lib.AppendZerosOnto
namespace Go.Proofs.YtafnjlgdjhegaaaG
open Go.RowKit
set_option linter.unusedVariables false
set_option linter.unusedSimpArgs false
/-- A fact that the walk's simp does not look into. -/
structure Hd (p : Prop) : Prop where
  out : p
theorem hd {p : Prop} (h : p) : Hd p := ⟨h⟩

variable {P : Program}

theorem run_copy_k (w : World) (dT sT ty elem : TypeId) (size : Nat) (g off dLen dCap : Nat) (ad : Addr) (sLen sCap : Nat) (cur : Array Value) (t : TypeId) (cs : List Value)
    (hu : P.underlying dT = some (.slice elem)) (hs : (P.info? elem).map (·.size) = some size) (hg : w.heap[g]? = some (.cells cur t (0, 0))) (hn : cs.length = Nat.min sLen dLen * size)
    (hsrc : ∀ j v, cs[j]? = some v → w.cell? (ad.add j) = some v) (hfit : off + cs.length ≤ cur.size) (h1 : ∀ v ∈ cs, v.oneCell' = true) :
    (Builtin.copy_ #[dT, sT] ty #[.slice (some ⟨g, off, none⟩) dLen dCap, .slice (some ad) sLen sCap]).run P w = .ok (goInt (Nat.min sLen dLen)) (w.setRow g (splice cur.toList off cs).toArray) := by
  have hf := run_firstCells_some (P := P) w size (Nat.min sLen dLen) ad sLen sCap cs hn hsrc
  have hst := run_storeCells_at P g off t cs 0 cur w hg (by simpa using hfit) h1
  simp only [Nat.add_zero, List.append_assoc] at hst
  unfold splice
  cases hq : P.info? elem with
  | none => simp [hq] at hs
  | some i =>
    have hi : i.size = size := by simpa [hq] using hs
    simp [Builtin.copy_, run_underlying hu, Builtin.lenOf, sizeOf, typeInfo, hq, hi, hf, hst]

theorem grownBy_setRow (w : World) (g : Nat) (cs : Array Value) : w.grownBy (w.setRow g cs) (some g) :=
  ⟨rfl, rfl, rfl, by simp, fun k _ hk => setRow_other w g k _ (fun e => hk (by rw [e]))⟩

theorem wpList_copy_k {w : World} {ops : Array Oper} {rest : List Oper} {o : Oper} {a : Act} {Q : Exit → Act → World → Prop} (hgd : o.guard = none) (d s : Operand) (dT sT : TypeId)
    (ho : o.op = .call { callee := .builtin .copy, args := #[d, s], argTypes := #[dT, sT] }) (elem : TypeId) (size : Nat) (hu : P.underlying dT = some (.slice elem)) (hsz : (P.info? elem).map (·.size) = some size)
    (g off dLen dCap : Nat) (ad : Addr) (sLen sCap : Nat) (hd : a.eval d = .slice (some ⟨g, off, none⟩) dLen dCap) (hs : a.eval s = .slice (some ad) sLen sCap)
    (cur : List Value) (t : TypeId) (hg : w.heap[g]? = some (.cells cur.toArray t (0, 0))) (cs : List Value) (hn : cs.length = Nat.min sLen dLen * size)
    (hsrc : ∀ j v, cs[j]? = some v → w.cell? (ad.add j) = some v) (hfit : off + cs.length ≤ cur.length) (h1 : ∀ v ∈ cs, v.oneCell' = true)
    (h : ∀ w', Hd (w'.heap[g]? = some (.cells (splice cur off cs).toArray t (0, 0))) → Hd (w.grownBy w' (some g)) → wpList P ops Q rest (a.put o.dst (goInt (Nat.min sLen dLen))) w') : wpList P ops Q (o :: rest) a w := by
  refine wpList_plain hgd fun K hK => ?_
  have hrun := run_copy_k (P := P) w dT sT o.type elem size g off dLen dCap ad sLen sCap cur.toArray t cs hu hsz hg hn hsrc (by simpa using hfit) h1
  unfold Oper.wp
  simp [execOp, ho, resolve, invoke, builtin, hd, hs, hrun, Result.andThen]
  exact hK _ _ (h _ ⟨setRow_heap w g _ _ t _ hg⟩ ⟨grownBy_setRow _ _ _⟩)

theorem step_copy_k {ops : Array Oper} {o : Oper} {a : Act} {w : World} {K : Act → World → Prop} {Q : Exit → Act → World → Prop} {E : Prop} (hgd : o.guard = none) (d s : Operand) (dT sT : TypeId)
    (ho : o.op = .call { callee := .builtin .copy, args := #[d, s], argTypes := #[dT, sT] }) (elem : TypeId) (size : Nat) (hu : P.underlying dT = some (.slice elem)) (hsz : (P.info? elem).map (·.size) = some size)
    (g off dLen dCap : Nat) (ad : Addr) (sLen sCap : Nat) (hd : a.eval d = .slice (some ⟨g, off, none⟩) dLen dCap) (hs : a.eval s = .slice (some ad) sLen sCap)
    (cur : List Value) (t : TypeId) (hg : w.heap[g]? = some (.cells cur.toArray t (0, 0))) (cs : List Value) (hn : cs.length = Nat.min sLen dLen * size)
    (hsrc : ∀ j v, cs[j]? = some v → w.cell? (ad.add j) = some v) (hfit : off + cs.length ≤ cur.length) (h1 : ∀ v ∈ cs, v.oneCell' = true)
    (h : ∀ w', Hd (w'.heap[g]? = some (.cells (splice cur off cs).toArray t (0, 0))) → Hd (w.grownBy w' (some g)) → K (a.put o.dst (goInt (Nat.min sLen dLen))) w') :
    if Region.wanted o (yielded ops a.tmps) = true then Oper.wp P o a w K Q else E := by
  have hw : Region.wanted o (yielded ops a.tmps) = true := by simp [Region.wanted, hgd]
  rw [if_pos hw]
  have hrun := run_copy_k (P := P) w dT sT o.type elem size g off dLen dCap ad sLen sCap cur.toArray t cs hu hsz hg hn hsrc (by simpa using hfit) h1
  unfold Oper.wp
  simp [execOp, ho, resolve, invoke, builtin, hd, hs, hrun, Result.andThen]
  exact h _ ⟨setRow_heap w g _ _ t _ hg⟩ ⟨grownBy_setRow _ _ _⟩

theorem grownBy_refl (w : World) (row : Option Nat) : w.grownBy w row := ⟨rfl, rfl, rfl, Nat.le_refl _, fun _ _ _ => rfl⟩
theorem grownBy_trans {w w1 w2 : World} {row : Option Nat} (h : w.grownBy w1 row) (k : w1.grownBy w2 row) : w.grownBy w2 row :=
  ⟨k.os.trans h.os, k.tape.trans h.tape, k.output.trans h.output, Nat.le_trans h.size k.size, fun i hi hr => (k.block i (Nat.lt_of_lt_of_le hi h.size) hr).trans (h.block i hi hr)⟩
theorem grownBy_drew {w w1 : World} {row : Option Nat} (h : w.grownBy w1 row) : w.grownBy w1.drew row := ⟨h.os, h.tape, h.output, h.size, h.block⟩
/-- What is written is a block that was not there: the old ones stay. -/
theorem grownBy_new {w w1 w2 : World} {row : Option Nat} (h : w.grownBy w1 row) {g : Nat} (hg : w.heap.size ≤ g) (k : w1.grownBy w2 (some g)) : w.grownBy w2 row :=
  ⟨k.os.trans h.os, k.tape.trans h.tape, k.output.trans h.output, Nat.le_trans h.size k.size, fun i hi hr => (k.block i (Nat.lt_of_lt_of_le hi h.size) (by simp; omega)).trans (h.block i hi hr)⟩
/-- An owned row that has a block: its block, whole. -/
theorem own_open {w : World} {base n : Nat} {e : TypeId} {size : Nat} {v : Value} {xs : List Value} (h : w.ownsRow base e size v n xs) (hn : 0 < n) :
    ∃ g cap cur, v = .slice (some ⟨g, 0, none⟩) n cap ∧ base ≤ g ∧ w.heap[g]? = some (.cells (List.toArray cur) e (0, 0)) ∧ n ≤ cap ∧ cap ≤ maxLen ∧ cur.length = cap * size ∧ cur.take (n * size) = xs := by
  rcases h.2 with ⟨rfl, h0⟩ | ⟨g, cap, cur, rfl, hb, hh, h1, h2, h3, h4⟩
  · omega
  · exact ⟨g, cap, cur.toList, rfl, hb, by simpa using hh, h1, h2, by simpa using h3, h4⟩
theorem own_shut {w : World} {base n g cap : Nat} {e : TypeId} {size : Nat} {cur xs : List Value} (hb : base ≤ g) (hh : w.heap[g]? = some (.cells (List.toArray cur) e (0, 0))) (h1 : n ≤ cap) (h2 : cap ≤ maxLen) (h3 : cur.length = cap * size) (h4 : cur.take (n * size) = xs) :
    w.ownsRow base e size (.slice (some ⟨g, 0, none⟩) n cap) n xs := by
  refine ⟨?_, .inr ⟨g, cap, cur.toArray, rfl, hb, hh, h1, h2, by simpa using h3, by simpa using h4⟩⟩
  rw [← h4, List.length_take, h3, Nat.min_eq_left (Nat.mul_le_mul_right _ h1)]
theorem cell_block {w : World} {g j : Nat} {cur : List Value} {t : TypeId} {fr : Nat × Nat} (hg : w.heap[g]? = some (.cells cur.toArray t fr)) : w.cell? ⟨g, j, none⟩ = cur[j]? := by
  rw [cell_of_row w g j _ t fr hg]
  simp
theorem frozen_block {w : World} {g j : Nat} {cur : Array Value} {t : TypeId} (hg : w.heap[g]? = some (.cells cur t (0, 0))) : w.frozen? ⟨g, j, none⟩ = false := frozen_of_row w g j cur t hg
theorem add_off (g o j : Nat) : (⟨g, o, none⟩ : Addr).add j = ⟨g, o + j, none⟩ := by unfold Addr.add; split <;> simp_all
theorem add_block (a : Addr) (j : Nat) : (a.add j).block = a.block := by unfold Addr.add; split <;> rfl
/-- What an in-place insertion leaves in the block: 'copy(s[i+1:], s[i:n]); copy(s[i:], v)', in cells. -/
theorem splice_insert (cur vs : List Value) (n i k : Nat) (hv : vs.length = k) (hi : i ≤ n) (hl : (n + 1) * k ≤ cur.length) :
    (splice (splice cur ((i + 1) * k) ((cur.drop (i * k)).take ((n - i) * k))) (i * k) vs).take ((n + 1) * k) = (cur.take (n * k)).take (i * k) ++ vs ++ (cur.take (n * k)).drop (i * k) := by
  have e1 : (n + 1) * k = n * k + k := by rw [Nat.add_mul, Nat.one_mul]
  have e2 : (i + 1) * k = i * k + k := by rw [Nat.add_mul, Nat.one_mul]
  have e3 : (n - i) * k = n * k - i * k := Nat.sub_mul ..
  have e4 : i * k ≤ n * k := Nat.mul_le_mul_right _ hi
  rw [e1] at hl ⊢
  rw [e2, e3]
  generalize i * k = a at *
  generalize n * k = b at *
  unfold splice
  apply List.ext_getElem?
  intro j
  simp only [List.getElem?_take, List.getElem?_append, List.getElem?_drop, List.length_take, List.length_append, List.length_drop]
  have m1 : min (a + k) cur.length = a + k := by omega
  have m2 : min (b - a) (cur.length - a) = b - a := by omega
  have m3 : min a b = a := by omega
  have m4 : min a cur.length = a := by omega
  have m5 : min b cur.length = b := by omega
  simp only [hv, m1, m2, m3, m4, m5]
  grind
/-- What an insertion into a new row leaves there: 'copy(r[i:], v); copy(r[i+1:], s[i:])', in cells. -/
theorem splice_grow (cur vs xs : List Value) (n i k : Nat) (hv : vs.length = k) (hi : i ≤ n) (hx : xs.length = n * k) (hl : (n + 1) * k ≤ cur.length) (ht : cur.take (i * k) = xs.take (i * k)) :
    (splice (splice cur (i * k) vs) ((i + 1) * k) (xs.drop (i * k))).take ((n + 1) * k) = xs.take (i * k) ++ vs ++ xs.drop (i * k) := by
  have e1 : (n + 1) * k = n * k + k := by rw [Nat.add_mul, Nat.one_mul]
  have e2 : (i + 1) * k = i * k + k := by rw [Nat.add_mul, Nat.one_mul]
  have e4 : i * k ≤ n * k := Nat.mul_le_mul_right _ hi
  rw [e1] at hl ⊢
  rw [e2, ← ht]
  generalize i * k = a at *
  generalize n * k = b at *
  unfold splice
  apply List.ext_getElem?
  intro j
  simp only [List.getElem?_take, List.getElem?_append, List.getElem?_drop, List.length_take, List.length_append, List.length_drop]
  have m1 : min (a + k) (min a cur.length + (k + (cur.length - (a + k)))) = a + k := by omega
  have m4 : min a cur.length = a := by omega
  simp only [hv, hx, m1, m4]
  grind
/-- 'append(s, make([]T, k)...)' where there is no room: a new row. -/
theorem wpList_append_zeros {w : World} {ops : Array Oper} {rest : List Oper} {o : Oper} {a : Act} {Q : Exit → Act → World → Prop} (hgd : o.guard = none) (s x : Operand) (t tn : TypeId)
    (ho : o.op = .call { callee := .builtin .append, args := #[s, x], argTypes := #[t, tn] }) (e : TypeId) (i : TypeInfo) (z : Value) (size bytes : Nat) (ht : P.underlying t = some (.slice e)) (htn : P.underlying tn = some (.int .i64)) (hi : P.info? e = some i) (hz : i.zero = some z)
    (hsize : i.size = size) (hby : i.bytes = bytes) (hzs : z.cells.size = size) (hsz : 0 < size)
    (ad : Addr) (sLen sCap : Nat) (hs : a.eval s = .slice (some ad) sLen sCap) (kI : Int) (k : Nat) (hx : a.eval x = .int .i64 kI) (hk : kI = k) (olds : List Value) (hl : olds.length = sLen * size) (hold : ∀ j u, olds[j]? = some u → w.cell? (ad.add j) = some u)
    (h0 : 0 < k) (hg : sCap < sLen + k) (hbytes : (sLen + k) * bytes ≤ 140737488355328) (h63 : sLen + k ≤ maxLen)
    (h : ∀ w' G cur, Hd (w'.heap[w.heap.size]? = some (.cells (List.toArray cur) e (0, 0))) → Hd (cur.length = G * size) → Hd (cur.take (sLen * size) = olds) → sLen + k ≤ G → G ≤ maxLen → Hd (w.grownBy w' none) →
      wpList P ops Q rest (a.put o.dst (.slice (some ⟨w.heap.size, 0, none⟩) (sLen + k) G)) w') : wpList P ops Q (o :: rest) a w := by
  subst hsize hby
  have hf : (Builtin.firstCells i.size sLen (.slice (some ad) sLen sCap)).run P w.drew = .ok olds.toArray w.drew := run_firstCells_some (P := P) w.drew i.size sLen ad sLen sCap olds hl hold
  have hrun := Lib.run_append_grow_zeros w t tn o.type e i z .i64 .i64 ht htn hi hz (some ad) sLen sCap olds hf k h0 (by omega) hg (by unfold maxLen at h63; omega) (by
    have := Nat.mul_le_mul_right i.bytes (show k ≤ sLen + k by omega)
    omega) (growslice_fits hg hbytes)
  refine Lib.wpList_append_run w hgd s x t tn ho _ _ hs hx _ _ (by rw [hk]; exact hrun) ?_
  have hge := grownCap_ge w (sLen + k) sCap e
  refine h _ _ (olds ++ (Builtin.zeroCells z.cells k).toList ++ (Builtin.zeroCells z.cells (grownCap w (sLen + k) sCap e - (sLen + k))).toList) ⟨?_⟩ ⟨?_⟩ ⟨?_⟩ hge (grownCap_le_maxLen w _ _ _ h63) ⟨⟨rfl, rfl, rfl, by simp, fun j hj hr => (World.grownBy_alloc w.drew _ none).block j hj hr⟩⟩
  · have := heap_alloc_new w.drew (.cells (olds.toArray ++ Builtin.zeroCells z.cells k ++ Builtin.zeroCells z.cells (grownCap w (sLen + k) sCap e - (sLen + k))) e)
    rw [show w.drew.heap.size = w.heap.size from rfl] at this
    rw [this]
    simp
  · simp only [List.length_append, Array.length_toList, size_zeroCells, hl, hzs, ← Nat.add_mul]
    congr 1
    omega
  · rw [List.append_assoc, ← hl]
    exact List.take_left
/-- 'clear(s)', s a part of a row that is known whole. -/
theorem wpList_clear_k {w : World} {ops : Array Oper} {rest : List Oper} {o : Oper} {a : Act} {Q : Exit → Act → World → Prop} (hgd : o.guard = none) (x : Operand) (t : TypeId)
    (ho : o.op = .call { callee := .builtin .clear, args := #[x], argTypes := #[t] }) (e : TypeId) (z : Value) (size : Nat) (ht : P.underlying t = some (.slice e)) (hz : ∀ w, (zeroValue e).run P w = .ok z w) (hzs : z.cells.size = size) (hz1 : ∀ u ∈ z.cells, u.oneCell' = true)
    (g off n c : Nat) (hx : a.eval x = .slice (some ⟨g, off, none⟩) n c) (cur : List Value) (tt : TypeId) (hg : w.heap[g]? = some (.cells cur.toArray tt (0, 0))) (hfit : off + n * size ≤ cur.length)
    (h : ∀ w' zs, Hd (w'.heap[g]? = some (.cells (splice cur off zs).toArray tt (0, 0))) → Hd (zs.length = n * size) → Hd (w.grownBy w' (some g)) → wpList P ops Q rest (a.put o.dst (.tuple #[])) w') : wpList P ops Q (o :: rest) a w := by
  have hzl : (Builtin.zeroCells z.cells n).toList.length = n * size := by rw [Array.length_toList, size_zeroCells, hzs]
  have hrun : ∃ w', (Builtin.clear_ #[t] o.type #[.slice (some ⟨g, off, none⟩) n c]).run P w = .ok (.tuple #[]) w' ∧ w'.heap[g]? = some (.cells (splice cur off (Builtin.zeroCells z.cells n).toList).toArray tt (0, 0)) ∧ w.grownBy w' (some g) := by
    cases n with
    | zero =>
      refine ⟨w, by simp [Builtin.clear_, run_underlying ht], ?_, grownBy_refl _ _⟩
      have : (Builtin.zeroCells z.cells 0).toList = [] := List.eq_nil_of_length_eq_zero (by simpa using hzl)
      rw [this, hg]
      simp [splice]
    | succ n =>
      have hst := run_storeCells_at P g off tt (Builtin.zeroCells z.cells (n + 1)).toList 0 cur.toArray w hg (by rw [hzl]; simpa using hfit) (fun u hu => by
        rw [Array.mem_toList_iff] at hu
        simp only [Builtin.zeroCells, Array.mem_map, Array.mem_range] at hu
        obtain ⟨i, hi, rfl⟩ := hu
        have hpos : 0 < z.cells.size := by
          rcases Nat.eq_zero_or_pos z.cells.size with h0 | h0
          · rw [h0] at hi; omega
          · exact h0
        have hm : i % z.cells.size < z.cells.size := Nat.mod_lt _ hpos
        rw [getElem!_pos z.cells _ hm]
        exact hz1 _ (Array.getElem_mem hm))
      simp only [Nat.add_zero, List.append_assoc] at hst
      refine ⟨w.setRow g (splice cur off (Builtin.zeroCells z.cells (n + 1)).toList).toArray, ?_, ?_, grownBy_setRow _ _ _⟩
      · simp [Builtin.clear_, run_underlying ht, hz, hst, splice]
      unfold splice
      exact setRow_heap w g _ _ tt _ hg
  obtain ⟨w', hr, h1, h2⟩ := hrun
  refine wpList_plain hgd fun K hK => ?_
  unfold Oper.wp
  simp [execOp, ho, resolve, invoke, builtin, hx, hr, Result.andThen]
  exact hK _ _ (h _ _ ⟨h1⟩ ⟨hzl⟩ ⟨h2⟩)
end Go.Proofs.YtafnjlgdjhegaaaG
