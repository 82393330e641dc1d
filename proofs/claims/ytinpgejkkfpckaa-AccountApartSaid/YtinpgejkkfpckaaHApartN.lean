-- MINIFIED by wip/tools/minify.py
/-
 Texts of this session, laid together by wip/tools/merge.py: HArr, HApartN.
-/
import Derived.Test.YtinpgejkkfpckaaPr0
import Derived.ArgAppend
import Derived.Maps.AppendAt
import Derived.Test.YtinpgejkkfpckaaPr23
import Derived.Test.YtinpgejkkfpckaaQ1
import Derived.Test.YtinpgejkkfpckaaG
section
namespace Go.Proofs.Ytinpgejkkfpckaa.Pr
open Go.RowKit Go.Proofs.YtinpgejkkfpckaaW.PrintWords Go.Proofs.YtinpgejkkfpckaaW.PrintLast Go.Proofs.YtinpgejkkfpckaaW.PrintMore
set_option linter.unusedVariables false
set_option linter.unusedSimpArgs false
/-- append(v, x) of a row of one's own: in its array, or in a new one, and then nothing old has turned. -/
abbrev kartN0 : Array Bool := #[true, true, true, true, true, true, true, true, true, true]
abbrev kartN1 : Array Bool := #[true, true, true, true, true, true, true, true, true, false]
abbrev kartN2 : Array Bool := #[true, true, true, true, true, true, true, true, false, false]
abbrev kartN3 : Array Bool := #[true, true, true, true, true, true, true, false, false, false]
abbrev kartN4 : Array Bool := #[true, true, true, true, true, true, false, false, false, false]
abbrev kartN5 : Array Bool := #[true, true, true, true, true, false, false, false, false, false]
abbrev kartN6 : Array Bool := #[true, true, true, true, false, false, false, false, false, false]
abbrev kartN7 : Array Bool := #[true, true, true, false, false, false, false, false, false, false]
abbrev kartN8 : Array Bool := #[true, true, false, false, false, false, false, false, false, false]
abbrev kartN9 : Array Bool := #[true, false, false, false, false, false, false, false, false, false]
abbrev kartN10 : Array Bool := #[false, false, false, false, false, false, false, false, false, false]
abbrev kartN11 : Array Bool := #[true, true, true, true, true, true, true, true, true, true, true, true, true, true, true, true, true, true, true, true, true, true, true, true, true, true, true, true, true, true, true, true, true]
abbrev kartN12 : Array Bool := #[true, true, true, true, true, true, true, true, true, true, true, true, true, true, true, true, true, true, true, true, true, true, true, true, true, true, true, true, true, true, true, true, false]
abbrev kartN13 : Array Bool := #[true, true, true, true, true, true, true, true, true, true, true, true, true, true, true, true, true, true, true, true, true, true, true, true, true, true, true, true, true, true, true, false, false]
abbrev kartN14 : Array Bool := #[true, true, true, true, true, true, true, true, true, true, true, true, true, true, true, true, true, true, true, true, true, true, true, true, true, true, true, true, true, true, false, false, false]
abbrev kartN15 : Array Bool := #[true, true, true, true, true, true, true, true, true, true, true, true, true, true, true, true, true, true, true, true, true, true, true, true, true, true, true, true, true, false, false, false, false]
abbrev kartN16 : Array Bool := #[true, true, true, true, true, true, true, true, true, true, true, true, true, true, true, true, true, true, true, true, true, true, true, true, true, true, true, true, false, false, false, false, false]
abbrev kartN17 : Array Bool := #[true, true, true, true, true, true, true, true, true, true, true, true, true, true, true, true, true, true, true, true, true, true, true, true, true, true, true, false, false, false, false, false, false]
abbrev kartN18 : Array Bool := #[true, true, true, true, true, true, true, true, true, true, true, true, true, true, true, true, true, true, true, true, true, true, true, true, true, true, false, false, false, false, false, false, false]
abbrev kartN19 : Array Bool := #[true, true, true, true, true, true, true, true, true, true, true, true, true, true, true, true, true, true, true, true, true, true, true, true, true, false, false, false, false, false, false, false, false]
abbrev kartN20 : Array Bool := #[true, true, true, true, true, true, true, true, true, true, true, true, true, true, true, true, true, true, true, true, true, true, true, true, false, false, false, false, false, false, false, false, false]
abbrev kartN21 : Array Bool := #[true, true, true, true, true, true, true, true, true, true, true, true, true, true, true, true, true, true, true, true, true, true, true, false, false, false, false, false, false, false, false, false, false]
abbrev kartN22 : Array Bool := #[true, true, true, true, true, true, true, true, true, true, true, true, true, true, true, true, true, true, true, true, true, true, false, false, false, false, false, false, false, false, false, false, false]
abbrev kartN23 : Array Bool := #[true, true, true, true, true, true, true, true, true, true, true, true, true, true, true, true, true, true, true, true, true, false, false, false, false, false, false, false, false, false, false, false, false]
abbrev kartN24 : Array Bool := #[true, true, true, true, true, true, true, true, true, true, true, true, true, true, true, true, true, true, true, true, false, false, false, false, false, false, false, false, false, false, false, false, false]
abbrev kartN25 : Array Bool := #[true, true, true, true, true, true, true, true, true, true, true, true, true, true, true, true, true, true, true, false, false, false, false, false, false, false, false, false, false, false, false, false, false]
abbrev kartN26 : Array Bool := #[true, true, true, true, true, true, true, true, true, true, true, true, true, true, true, true, true, true, false, false, false, false, false, false, false, false, false, false, false, false, false, false, false]
abbrev kartN27 : Array Bool := #[true, true, true, true, true, true, true, true, true, true, true, true, true, true, true, true, true, false, false, false, false, false, false, false, false, false, false, false, false, false, false, false, false]
abbrev kartN28 : Array Bool := #[true, true, true, true, true, true, true, true, true, true, true, true, true, true, true, true, false, false, false, false, false, false, false, false, false, false, false, false, false, false, false, false, false]
abbrev kartN29 : Array Bool := #[true, true, true, true, true, true, true, true, true, true, true, true, true, true, true, false, false, false, false, false, false, false, false, false, false, false, false, false, false, false, false, false, false]
abbrev kartN30 : Array Bool := #[true, true, true, true, true, true, true, true, true, true, true, true, true, true, false, false, false, false, false, false, false, false, false, false, false, false, false, false, false, false, false, false, false]
abbrev kartN31 : Array Bool := #[true, true, true, true, true, true, true, true, true, true, true, true, true, false, false, false, false, false, false, false, false, false, false, false, false, false, false, false, false, false, false, false, false]
abbrev kartN32 : Array Bool := #[true, true, true, true, true, true, true, true, true, true, true, true, false, false, false, false, false, false, false, false, false, false, false, false, false, false, false, false, false, false, false, false, false]
abbrev kartN33 : Array Bool := #[true, true, true, true, true, true, true, true, true, true, true, false, false, false, false, false, false, false, false, false, false, false, false, false, false, false, false, false, false, false, false, false, false]
abbrev kartN34 : Array Bool := #[true, true, true, true, true, true, true, true, true, true, false, false, false, false, false, false, false, false, false, false, false, false, false, false, false, false, false, false, false, false, false, false, false]
abbrev kartN35 : Array Bool := #[true, true, true, true, true, true, true, true, true, false, false, false, false, false, false, false, false, false, false, false, false, false, false, false, false, false, false, false, false, false, false, false, false]
abbrev kartN36 : Array Bool := #[true, true, true, true, true, true, true, true, false, false, false, false, false, false, false, false, false, false, false, false, false, false, false, false, false, false, false, false, false, false, false, false, false]
abbrev kartN37 : Array Bool := #[true, true, true, true, true, true, true, false, false, false, false, false, false, false, false, false, false, false, false, false, false, false, false, false, false, false, false, false, false, false, false, false, false]
abbrev kartN38 : Array Bool := #[true, true, true, true, true, true, false, false, false, false, false, false, false, false, false, false, false, false, false, false, false, false, false, false, false, false, false, false, false, false, false, false, false]
abbrev kartN39 : Array Bool := #[true, true, true, true, true, false, false, false, false, false, false, false, false, false, false, false, false, false, false, false, false, false, false, false, false, false, false, false, false, false, false, false, false]
abbrev kartN40 : Array Bool := #[true, true, true, true, false, false, false, false, false, false, false, false, false, false, false, false, false, false, false, false, false, false, false, false, false, false, false, false, false, false, false, false, false]
abbrev kartN41 : Array Bool := #[true, true, true, false, false, false, false, false, false, false, false, false, false, false, false, false, false, false, false, false, false, false, false, false, false, false, false, false, false, false, false, false, false]
abbrev kartN42 : Array Bool := #[true, true, false, false, false, false, false, false, false, false, false, false, false, false, false, false, false, false, false, false, false, false, false, false, false, false, false, false, false, false, false, false, false]
abbrev kartN43 : Array Bool := #[true, false, false, false, false, false, false, false, false, false, false, false, false, false, false, false, false, false, false, false, false, false, false, false, false, false, false, false, false, false, false, false, false]
abbrev kartN44 : Array Bool := #[false, false, false, false, false, false, false, false, false, false, false, false, false, false, false, false, false, false, false, false, false, false, false, false, false, false, false, false, false, false, false, false, false]
theorem append_keep (ty : TypeId) (w : World) (base : Nat) (v : Value) (n : Nat) (xs : List Value) (x : Value) (hown : w.ownsRow base 2 1 v n xs) (hb : base ≤ w.heap.size) (ad : Addr) (hx : w.cell? ad = some x) (h1 : x.oneCell' = true) (hn : n + 1 ≤ 1000000) :
  ∃ v' w', (Builtin.append_ #[22, 22] ty #[v, .slice (some ad) 1 1]).run Try.prog w = .ok v' w' ∧ w'.ownsRow base 2 1 v' (n + 1) (xs ++ [x]) ∧ w.grownBy w' v.ownBlock ∧ (v'.ownBlock = v.ownBlock ∨ ∃ b, v'.ownBlock = some b ∧ w.heap.size ≤ b ∧ w.grownBy w' none) := by
 obtain ⟨i0, hi, hzz⟩ := Option.map_eq_some_iff.1 info2
 simp only [Prod.mk.injEq] at hzz
 obtain ⟨hz0, hz1, hz2⟩ := hzz
 have hnews : ∀ (j : Nat) (u : Value), [x][j]? = some u → w.cell? (ad.add j) = some u := by
  intro j u hj
  match j, hj with
  | 0, hj =>
   simp at hj
   subst hj
   have e : ad.add 0 = ad := by unfold Addr.add; cases ad; simp
   rw [e]; exact hx
 have hone : ∀ u ∈ [x], u.oneCell' = true := fun u hu => by rw [List.mem_singleton.1 hu]; exact h1
 obtain ⟨v', w', hr, ho, hg, _, hat⟩ := run_append_own_at (P := Try.prog) w base 22 ty 2 i0 (.int .i64 0) 1 8 Try.underlying22 hi hz0 hz1 hz2 rfl (by decide) v n xs hown ad 1 1 [x] rfl hnews hone (by simp [maxLen]; omega) (by omega) hb
 refine ⟨v', w', hr, ho, hg, ?_⟩
 rcases hown.2 with ⟨rfl, hn0⟩ | ⟨g, cap, cur, rfl, hbg, hheap, hnc, hcm, hsz, htake⟩
 ·rcases hat with hat | hat
  ·exact .inl hat
  ·exact .inr ⟨_, hat, Nat.le_refl _, hg⟩
 ·by_cases hc : cap < n + 1
  ·obtain ⟨v2, w2, hr2, ho2, hg2⟩ := run_append_arg_grows (P := Try.prog) w 22 ty 2 i0 (.int .i64 0) 1 8 Try.underlying22 hi hz0 hz1 hz2 rfl (by decide) ⟨g, 0, none⟩ n cap xs hown.1 (fun j u hj => by
    have hl := (List.getElem?_eq_some_iff.1 hj).1
    have hl2 := hown.1
    rw [Addr.add_lit, Nat.zero_add, hown.cellAt j (by omega)]
    exact hj) ad 1 1 [x] rfl hnews hc (by simp [maxLen]; omega) (by omega)
   rw [hr] at hr2
   injection hr2 with e1 e2
   subst e1; subst e2
   rcases hat with hat | hat
   ·exact .inl hat
   ·exact .inr ⟨_, hat, Nat.le_refl _, hg2⟩
  ·have hr2 := run_append_room_cells (P := Try.prog) w 22 ty 2 i0 Try.underlying22 hi g 0 n cap ad 1 1 [x] (by rw [hz1]; rfl) hnews hone (by omega) (fun j hj => ?_) (fun j hj => ?_)
   ·rw [hr] at hr2
    injection hr2 with e1 e2
    subst e1
    exact .inl rfl
   ·have hj0 : j = 0 := by simp at hj; exact hj
    subst hj0
    rw [hz1]
    have e : (⟨g, 0 + n * 1 + 0, none⟩ : Addr) = ⟨g, n, none⟩ := by simp
    rw [e, blk_cell hheap n]
    simp
    omega
   ·rw [hz1]
    exact blk_frozen hheap _
section
variable {ops : Array Oper} {rest : List Oper} {o : Oper} {a : Act} {Q : Exit → Act → World → Prop}
theorem wp_append_keep (W : World) (base : Nat) (hgd : o.guard = none) (s x : Operand) (ho : o.op = .call { callee := .builtin .append, args := #[s, x], argTypes := #[22, 22] })
  (v : Value) (n : Nat) (xs : List Value) (xv : Value) (hs : a.eval s = v) (hx : a.eval x = .slice (some ⟨W.heap.size, 0, none⟩) 1 1) (hown : W.ownsRow base 2 1 v n xs) (hb : base ≤ W.heap.size) (h1 : xv.oneCell' = true) (hn : n + 1 ≤ 1000000)
  (h : ∀ v1 w1, w1.ownsRow base 2 1 v1 (n + 1) (xs ++ [xv]) → W.grownBy w1 v.ownBlock → (v1.ownBlock = v.ownBlock ∨ ∃ b, v1.ownBlock = some b ∧ W.heap.size ≤ b ∧ W.grownBy w1 none) → wpList Try.prog ops Q rest (a.put o.dst v1) w1) :
  wpList Try.prog ops Q (o :: rest) a (W.alloc (.cells #[xv] 2)) := by
 have hcell : (W.alloc (.cells #[xv] 2)).cell? ⟨W.heap.size, 0, none⟩ = some xv := (blk_cell (heap_alloc_new W (.cells #[xv] 2)) 0).trans rfl
 obtain ⟨v1, w1, hr, ho1, hg, hat⟩ := append_keep o.type (W.alloc (.cells #[xv] 2)) base v n xs xv (hown.alloc _) (by simp; omega) ⟨W.heap.size, 0, none⟩ hcell h1 hn
 refine wpList_plain hgd fun K hK => ?_
 unfold Oper.wp execOp
 simp only [ho, resolve, invoke, builtin, Sem.run_bind, Sem.run_pure, Result.andThen_ok, List.map_toArray, List.map_cons, List.map_nil, hs, hx, hr]
 refine hK _ _ (h v1 w1 ho1 (World.grownBy.trans (World.grownBy_alloc W _ _) hg) ?_)
 rcases hat with hat | ⟨b, h2, h3, h4⟩
 ·exact .inl hat
 ·exact .inr ⟨b, h2, by simp at h3; omega, World.grownBy.trans (World.grownBy_alloc W _ _) h4⟩
end
/-- Two slices of numbers of one's own, in a list of two (block g), each in its own array. -/
structure Ph1 (w : World) (base g : Nat) (v0 v1 : Value) (n0 n1 : Nat) (xs0 xs1 : List Value) : Prop where
 gb : base ≤ g
 hg : w.heap[g]? = some (.cells #[v0, v1] 22 (0, 0))
 o0 : w.ownsRow base 2 1 v0 n0 xs0
 o1 : w.ownsRow base 2 1 v1 n1 xs1
 g0 : v0.ownBlock ≠ some g
 g1 : v1.ownBlock ≠ some g
 ne : ∀ b, v0.ownBlock = some b → v1.ownBlock ≠ some b
section
variable {w w' : World} {base g n0 n1 : Nat} {v0 v1 : Value} {xs0 xs1 : List Value}
theorem Ph1.drewN (h : Ph1 w base g v0 v1 n0 n1 xs0 xs1) (m : Nat) : Ph1 (w.drewN m) base g v0 v1 n0 n1 xs0 xs1 := ⟨h.gb, h.hg, h.o0, h.o1, h.g0, h.g1, h.ne⟩
theorem own_slice_of {v : Value} {n : Nat} {xs : List Value} (h : w.ownsRow base 2 1 v n xs) (hn : 0 < n) : ∃ b c, v = .slice (some ⟨b, 0, none⟩) n c ∧ base ≤ b := by
 rcases h.2 with ⟨_, h0⟩ | ⟨b, cap, cur, rfl, hb, _⟩
 ·omega
 ·exact ⟨b, cap, rfl, hb⟩
theorem own_far {v : Value} {n : Nat} {xs : List Value} (h : w.ownsRow base 2 1 v n xs) {b j : Nat} (u : Value) (hb : v.ownBlock ≠ some b) : (w.setCell ⟨b, j, none⟩ u).ownsRow base 2 1 v n xs := by
 refine ⟨h.1, h.2.imp id ?_⟩
 rintro ⟨b', cap, cur, rfl, h1, h2, h3⟩
 exact ⟨b', cap, cur, rfl, h1, (Below.heap_setCell w ⟨b, j, none⟩ u b' (fun e => hb (by simp [Value.ownBlock, e]))).trans h2, h3⟩
theorem Ph1.store0 (h : Ph1 w base g v0 v1 n0 n1 xs0 xs1) {b c : Nat} (hv : v0 = .slice (some ⟨b, 0, none⟩) n0 c) (j : Nat) (u : Value) : Ph1 (w.setCell ⟨b, j, none⟩ u) base g v0 v1 n0 n1 (xs0.set j u) xs1 := by
 have hne : v1.ownBlock ≠ some b := h.ne b (by rw [hv]; rfl)
 have hgb : g ≠ b := fun e => h.g0 (by rw [hv, e]; rfl)
 refine ⟨h.gb, (Below.heap_setCell w ⟨b, j, none⟩ u g hgb).trans h.hg, ?_, own_far h.o1 u hne, h.g0, h.g1, h.ne⟩
 have := h.o0
 rw [hv] at this ⊢
 exact (this.stored j u).1
theorem Ph1.store1 (h : Ph1 w base g v0 v1 n0 n1 xs0 xs1) {b c : Nat} (hv : v1 = .slice (some ⟨b, 0, none⟩) n1 c) (j : Nat) (u : Value) : Ph1 (w.setCell ⟨b, j, none⟩ u) base g v0 v1 n0 n1 xs0 (xs1.set j u) := by
 have hne : v0.ownBlock ≠ some b := fun e => h.ne b e (by rw [hv]; rfl)
 have hgb : g ≠ b := fun e => h.g1 (by rw [hv, e]; rfl)
 refine ⟨h.gb, (Below.heap_setCell w ⟨b, j, none⟩ u g hgb).trans h.hg, own_far h.o0 u hne, ?_, h.g0, h.g1, h.ne⟩
 have := h.o1
 rw [hv] at this ⊢
 exact (this.stored j u).1
end
/-- The number that ApartNumbers writes at place i of row k. -/
def mk (k i : Int) : Int := wrap64 (wrap64 (1000003 * wrap64 (k + 7)) + i)
def mks (k n : Nat) : List Value := (List.range n).map fun i : Nat => .int .i64 (mk k i)
theorem mks_len (k n : Nat) : (mks k n).length = n := by simp [mks]
theorem mks_snoc (k n : Nat) : mks k n ++ [.int .i64 (mk k n)] = mks k (n + 1) := by simp [mks, List.range_succ]
theorem mks_get (k n i : Nat) (h : i < n) : (mks k n)[i]? = some (.int .i64 (mk k i)) := by simp [mks, h]
theorem mks_set (k i n : Nat) (xs : List Value) (hx : xs.length = n) (h : i < n) : (mks k i ++ xs.drop i).set i (.int .i64 (mk k i)) = mks k (i + 1) ++ xs.drop (i + 1) := by
 have hd : xs.drop i = xs[i]'(by omega) :: xs.drop (i + 1) := List.drop_eq_getElem_cons (by omega)
 rw [hd, List.set_append_right _ _ (by rw [mks_len]; exact Nat.le_refl _), mks_len, Nat.sub_self, List.set_cons_zero, ← mks_snoc, List.append_assoc]
 rfl
/-- What is read of a slice of numbers. -/
def Rdm (w : World) (v : Value) (n : Nat) (xs : List Value) : Prop := 0 < n → ∃ b c, v = .slice (some ⟨b, 0, none⟩) n c ∧ b < w.heap.size ∧ ∀ i, i < n → w.cell? ⟨b, i, none⟩ = xs[i]?
theorem Rdm.of_own {w : World} {base : Nat} {v : Value} {n : Nat} {xs : List Value} (h : w.ownsRow base 2 1 v n xs) : Rdm w v n xs := fun hn => by
 obtain ⟨b, c, rfl, hb⟩ := own_slice_of h hn
 exact ⟨b, c, rfl, (h.lt b rfl).2, fun i hi => h.cellAt i (by omega)⟩
theorem Rdm.move {w w' : World} {v : Value} {n : Nat} {xs : List Value} (h : Rdm w v n xs) (hm : ∀ b, v.ownBlock = some b → b < w.heap.size → w'.heap[b]? = w.heap[b]?) (hz : w.heap.size ≤ w'.heap.size) : Rdm w' v n xs := fun hn => by
 obtain ⟨b, c, rfl, hb, hc⟩ := h hn
 exact ⟨b, c, rfl, by omega, fun i hi => (World.cell?_of_block (a := ⟨b, i, none⟩) (hm b rfl hb)).trans (hc i hi)⟩
/-- Row k's numbers, j of them appended since the world W: they lie in the old array or in a new one; what was read stays. -/
structure Ext (W w : World) (base k n : Nat) (v u : Value) (j : Nat) : Prop where
 own : w.ownsRow base 2 1 u (n + j) (mks k (n + j))
 rd : Rdm w v n (mks k n)
 gr : W.grownBy w v.ownBlock
 at_ : u.ownBlock = v.ownBlock ∨ ∃ b, u.ownBlock = some b ∧ W.heap.size ≤ b
theorem Ext.start {W : World} {base k n : Nat} {v : Value} (h : W.ownsRow base 2 1 v n (mks k n)) : Ext W W base k n v v 0 :=
 ⟨h, Rdm.of_own h, ⟨rfl, rfl, rfl, Nat.le_refl _, fun _ _ _ => rfl⟩, .inl rfl⟩
theorem Ext.step {W w w1 : World} {base k n j : Nat} {v u v1 : Value} (h : Ext W w base k n v u j) (hv : ∀ b, v.ownBlock = some b → b < W.heap.size)
  (ho : w1.ownsRow base 2 1 v1 (n + j + 1) (mks k (n + j) ++ [.int .i64 (Go.Proofs.Ytinpgejkkfpckaa.Pr.mk k ((n + j : Nat) : Int))])) (hg : w.grownBy w1 u.ownBlock) (hat : v1.ownBlock = u.ownBlock ∨ ∃ b, v1.ownBlock = some b ∧ w.heap.size ≤ b ∧ w.grownBy w1 none) : Ext W w1 base k n v v1 (j + 1) := by
 rw [mks_snoc] at ho
 have hz := h.gr.size
 have hz1 := hg.size
 refine ⟨ho, ?_, ?_, ?_⟩
 ·rcases hat with hat | ⟨b, h1, h2, h3⟩
  ·rcases h.at_ with hu | ⟨b, h1, h2⟩
   ·intro hn
    obtain ⟨b, c, rfl, hb, hc⟩ := h.rd hn
    obtain ⟨b', c', rfl, hb'⟩ := own_slice_of ho (by omega)
    have e : b' = b := by
     have := hat.trans hu
     simpa [Value.ownBlock] using this
    subst e
    exact ⟨b', c, rfl, by omega, fun i hi => by
     rw [ho.cellAt i (by omega), mks_get _ _ _ (by omega), mks_get _ _ _ hi]⟩
   ·refine h.rd.move (fun b' e hlt => hg.block b' hlt (fun e' => ?_)) hz1
    rw [h1] at e'
    have := hv b' e
    injection e' with e'
    omega
  ·exact h.rd.move (fun b' e hlt => h3.block b' hlt (by simp)) hz1
 ·rcases h.at_ with hu | ⟨b, h1, h2⟩
  ·rw [hu] at hg
   exact World.grownBy.trans h.gr hg
  ·refine ⟨hg.os.trans h.gr.os, hg.tape.trans h.gr.tape, hg.output.trans h.gr.output, by omega, fun i hi hne => (hg.block i (by omega) (fun e => ?_)).trans (h.gr.block i hi hne)⟩
   rw [h1] at e
   injection e with e
   omega
 ·rcases hat with hat | ⟨b, h1, h2, h3⟩
  ·rw [hat]; exact h.at_
  ·exact .inr ⟨b, h1, by omega⟩
/-- Ahead of the first appended row. -/
structure PhA (w : World) (base g s n0 n1 : Nat) (v0 v1 : Value) : Prop where
 p1 : Ph1 w base g v0 v1 n0 n1 (mks 0 n0) (mks 1 n1)
 sb : base ≤ s
 gs : g ≠ s
 hs : w.heap[s]? = some (.cells #[.slice none 0 0, .slice none 0 0] 22 (0, 0))
 s0 : v0.ownBlock ≠ some s
 s1 : v1.ownBlock ≠ some s
/-- Between the two. -/
structure PhB (w : World) (base g s n0 n1 : Nat) (v0 v1 q0 : Value) : Prop where
 sb : base ≤ s
 gs : g ≠ s
 hg : w.heap[g]? = some (.cells #[v0, v1] 22 (0, 0))
 hs : w.heap[s]? = some (.cells #[q0, .slice none 0 0] 22 (0, 0))
 o1 : w.ownsRow base 2 1 v1 n1 (mks 1 n1)
 g1 : v1.ownBlock ≠ some g
 s0 : v0.ownBlock ≠ some s
 s1 : v1.ownBlock ≠ some s
 sq : q0.ownBlock ≠ some s
 r0 : Rdm w v0 n0 (mks 0 n0)
 rq : Rdm w q0 (n0 + 40) (mks 0 (n0 + 40))
 d0 : ∀ b, v0.ownBlock = some b → v1.ownBlock ≠ some b
 dq : ∀ b, q0.ownBlock = some b → v1.ownBlock ≠ some b
theorem PhA.next {W w : World} {base g s n0 n1 : Nat} {v0 v1 u : Value} (h : PhA W base g s n0 n1 v0 v1) (e : Ext W w base 0 n0 v0 u 40) : PhB (w.setCell ⟨s, 0, none⟩ u) base g s n0 n1 v0 v1 u := by
 have hsl := blk_lt h.hs
 have hgl := blk_lt h.p1.hg
 have hus : u.ownBlock ≠ some s := fun hh => by
  rcases e.at_ with hu | ⟨b, h1, h2⟩
  ·exact h.s0 (hu.symm.trans hh)
  ·rw [h1] at hh; injection hh with hh; omega
 have far : ∀ b, b ≠ s → (w.setCell ⟨s, 0, none⟩ u).heap[b]? = w.heap[b]? := fun b hb => Below.heap_setCell w ⟨s, 0, none⟩ u b hb
 have hsz : w.heap.size ≤ (w.setCell ⟨s, 0, none⟩ u).heap.size := by simp [World.setCell]
 refine ⟨h.sb, h.gs, (far g h.gs).trans ((e.gr.block g hgl (fun hh => h.p1.g0 hh.symm)).trans h.p1.hg), blk_put ((e.gr.block s hsl (fun hh => h.s0 hh.symm)).trans h.hs) 0 _ rfl, ?_, h.p1.g1, h.s0, h.s1, hus, ?_, ?_, h.p1.ne, fun b hb hh => ?_⟩
 ·refine own_far (own_move h.p1.o1 fun k hk => e.gr.block k (h.p1.o1.lt k hk).2 fun hh => h.p1.ne k hh.symm hk) u h.s1
 ·exact e.rd.move (fun b hb _ => far b fun hh => h.s0 (hh ▸ hb)) hsz
 ·exact (Rdm.of_own e.own).move (fun b hb _ => far b fun hh => hus (hh ▸ hb)) hsz
 ·rcases e.at_ with hu | ⟨b', h1, h2⟩
  ·exact h.p1.ne b (hu.symm.trans hb) hh
  ·rw [h1] at hb
   injection hb with hb
   have := (h.p1.o1.lt b hh).2
   omega
/-- Behind both: all that is read. -/
structure PhC (w : World) (g s n0 n1 : Nat) (v0 v1 q0 q1 : Value) : Prop where
 hg : w.heap[g]? = some (.cells #[v0, v1] 22 (0, 0))
 hs : w.heap[s]? = some (.cells #[q0, q1] 22 (0, 0))
 r0 : Rdm w v0 n0 (mks 0 n0)
 rq0 : Rdm w q0 (n0 + 40) (mks 0 (n0 + 40))
 r1 : Rdm w v1 n1 (mks 1 n1)
 rq1 : Rdm w q1 (n1 + 40) (mks 1 (n1 + 40))
theorem PhB.next {W w : World} {base g s n0 n1 : Nat} {v0 v1 q0 u : Value} (h : PhB W base g s n0 n1 v0 v1 q0) (e : Ext W w base 1 n1 v1 u 40) : PhC (w.setCell ⟨s, 0 + 1, none⟩ u) g s n0 n1 v0 v1 q0 u := by
 have hsl := blk_lt h.hs
 have hgl := blk_lt h.hg
 have hus : u.ownBlock ≠ some s := fun hh => by
  rcases e.at_ with hu | ⟨b, h1, h2⟩
  ·exact h.s1 (hu.symm.trans hh)
  ·rw [h1] at hh; injection hh with hh; omega
 have far : ∀ b, b ≠ s → (w.setCell ⟨s, 0 + 1, none⟩ u).heap[b]? = w.heap[b]? := fun b hb => Below.heap_setCell w ⟨s, 0 + 1, none⟩ u b hb
 have hsz : w.heap.size ≤ (w.setCell ⟨s, 0 + 1, none⟩ u).heap.size := by simp [World.setCell]
 have hWs : W.heap.size ≤ (w.setCell ⟨s, 0 + 1, none⟩ u).heap.size := by have := e.gr.size; omega
 refine ⟨(far g h.gs).trans ((e.gr.block g hgl (fun hh => h.g1 hh.symm)).trans h.hg), blk_put ((e.gr.block s hsl (fun hh => h.s1 hh.symm)).trans h.hs) (0 + 1) _ rfl, ?_, ?_, ?_, ?_⟩
 ·exact h.r0.move (fun b hb hl => (far b fun hh => h.s0 (hh ▸ hb)).trans (e.gr.block b hl fun hh => h.d0 b hb hh.symm)) hWs
 ·exact h.rq.move (fun b hb hl => (far b fun hh => h.sq (hh ▸ hb)).trans (e.gr.block b hl fun hh => h.dq b hb hh.symm)) hWs
 ·exact e.rd.move (fun b hb _ => far b fun hh => h.s1 (hh ▸ hb)) hsz
 ·exact (Rdm.of_own e.own).move (fun b hb _ => far b fun hh => hus (hh ▸ hb)) hsz
end Go.Proofs.Ytinpgejkkfpckaa.Pr
end
section
namespace Go.Proofs.Ytinpgejkkfpckaa.Pr
open Go.RowKit Go.Proofs.YtinpgejkkfpckaaW.PrintWords Go.Proofs.YtinpgejkkfpckaaW.PrintLast Go.Proofs.YtinpgejkkfpckaaW.PrintMore Go.Proofs.YtinpgejkkfpckaaG
set_option linter.unusedVariables false
set_option linter.unusedSimpArgs false
theorem made_two {w w1 : World} {base : Nat} {z : Value} (h : w1.ownsRow base 22 1 (.slice (some ⟨w.heap.size, 0, none⟩) 2 2) 2 (madeCells #[z] 2).toList) : w1.heap[w.heap.size]? = some (.cells #[z, z] 22 (0, 0)) := by
 rcases h.2 with ⟨h', _⟩ | ⟨g, cap, cur, h', _, hg, _, _, hs, ht⟩
 ·cases h'
 ·simp only [Value.slice.injEq, Option.some.injEq, Addr.mk.injEq, and_true, true_and] at h'
  obtain ⟨rfl, rfl⟩ := h'
  have e : cur = #[z, z] := by
   apply Array.ext'
   rw [← List.take_of_length_le (i := 2 * 1) (l := cur.toList) (by simp; omega), ht, toList_madeCells_one]
   rfl
  rw [hg, e]
theorem Ph1.grown {w w' : World} {base g n0 n1 : Nat} {v0 v1 : Value} {xs0 xs1 : List Value} (h : Ph1 w base g v0 v1 n0 n1 xs0 xs1) (hg : w.grownBy w' none) : Ph1 w' base g v0 v1 n0 n1 xs0 xs1 :=
 ⟨h.gb, (hg.block g (blk_lt h.hg) (by simp)).trans h.hg, own_move h.o0 (fun k hk => hg.block k (h.o0.lt k hk).2 (by simp)), own_move h.o1 (fun k hk => hg.block k (h.o1.lt k hk).2 (by simp)), h.g0, h.g1, h.ne⟩
theorem PhC.drewN {w : World} {g s n0 n1 : Nat} {v0 v1 q0 q1 : Value} (h : PhC w g s n0 n1 v0 v1 q0 q1) (m : Nat) : PhC (w.drewN m) g s n0 n1 v0 v1 q0 q1 := ⟨h.hg, h.hs, h.r0, h.rq0, h.r1, h.rq1⟩
theorem info22 : (Try.prog.info? 22).map (fun i => (i.zero, i.size, i.bytes)) = some (some (.slice none 0 0), 1, 24) := by kernel_rfl
def apart.T8 : Bool × List (List Nat × List Nat) := (true, [([], []), ([], []), ([0, 1], [0, 1]), ([2], [2]), ([], []), ([], []), ([], []), ([5, 6], [5, 6]), ([3, 4, 0, 1, 2, 3, 4, 5, 6, 7], [3, 4]), ([8, 7, 7, 0, 1, 2, 3, 4, 5, 6, 7], [7, 8])])
def apart.B8 : List Nat := [0, 0, 3, 7, 0, 0, 0, 96, 255, 511]
theorem apart.tab8 : rtab .any (opsOf Try.f29 8) = apart.T8 := by kernel_rfl
theorem apart.bits8 : waitsOk apart.T8.2 apart.B8 = true := by kernel_rfl
def apart.T24 : Bool × List (List Nat × List Nat) := (true, [([], []), ([], []), ([0, 1], [0, 1]), ([2], [2]), ([], []), ([3, 4], [3, 4]), ([5], [5]), ([], []), ([], []), ([7, 8], [7, 8]), ([6, 9], [6, 9]), ([10, 9], [10]), ([11], [11]), ([11], [11]), ([11], [11]), ([13, 14, 11], [11, 13, 14]), ([15, 11], [11, 15]), ([16, 11], [11, 16]), ([12, 17, 11], [11, 12, 17]), ([18, 11, 11], [11, 18]), ([19], [19]), ([19], [19]), ([20, 21, 19], [19, 20, 21]), ([22, 19], [19, 22]), ([19], [19]), ([23, 24, 19], [19, 23, 24]), ([25, 19], [19, 25]), ([19], [19]), ([19], [19]), ([27, 28, 19, 19], [19, 27, 28]), ([26, 29, 19], [19, 26, 29]), ([19, 30, 11], [11, 19, 30]), ([11, 31], [11, 31])])
def apart.B24 : List Nat := [0, 0, 3, 7, 0, 31, 63, 0, 0, 384, 1023, 2047, 4095, 4095, 4095, 28671, 61439, 126975, 262143, 524287, 1048575, 1048575, 4194303, 8388607, 1048575, 33554431, 67108863, 1048575, 1048575, 403701759, 1073741823, 2147483647, 4294967295]
theorem apart.tab24 : rtab .any (opsOf Try.f29 24) = apart.T24 := by kernel_rfl
theorem apart.bits24 : waitsOk apart.T24.2 apart.B24 = true := by kernel_rfl
set_option maxRecDepth 100000 in
set_option maxHeartbeats 8000000 in
theorem apart_walk (w : World) (base g n0 n1 : Nat) (v0 v1 : Value) (xs0 xs1 : List Value) (h : Ph1 w base g v0 v1 n0 n1 xs0 xs1) (hb : base ≤ w.heap.size) (h0 : n0 ≤ 1000) (h1 : n1 ≤ 1000) :
  Calls Try.prog 29 #[.slice (some ⟨g, 0, none⟩) 2 2] w fun e w' => e = .returned (.bool true) ∧ ∀ w0, Below base w0 w → Below base w0 w' := by
 have hgl : g < w.heap.size := blk_lt h.hg
 obtain ⟨A0, c0, rfl⟩ := own_slice h.o0
 obtain ⟨A1, c1, rfl⟩ := own_slice h.o1
 have HL0 : Hd (∀ b, (Value.slice A0 n0 c0).ownBlock = some b → b < w.heap.size) := hd fun b e => (h.o0.lt b e).2
 have HL1 : Hd (∀ b, (Value.slice A1 n1 c1).ownBlock = some b → b < w.heap.size) := hd fun b e => (h.o1.lt b e).2
 have H := hd h
 clear h
 obtain ⟨i22, hi22, hz22⟩ := Option.map_eq_some_iff.1 info22
 simp only [Prod.mk.injEq] at hz22
 obtain ⟨w1, hrun, hown, hg⟩ := run_make_full (P := Try.prog) w base 59 22 i22 _ 1 Try.underlying59 hi22 hz22.1 hz22.2.1 .i64 .i64 2 (by rw [hz22.2.2]; decide) (by decide) hb
 have hrun' : (Instr.makeSlice 59 (.int .i64 2) (.int .i64 2)).run Try.prog w = .ok (.slice (some ⟨w.heap.size, 0, none⟩) 2 2) w1 := hrun
 clear hrun hz22
 go_enter Try.func29, Try.ntmps29
 go_wp2
 have HG1 : Hd (w.grownBy w1 none) := hd hg
 have HGS1 : Hd (w1.heap[w.heap.size]? = some (.cells #[.slice none 0 0, .slice none 0 0] 22 (0, 0))) := hd (made_two hown)
 have HP1 : Hd (Ph1 w1 base g (.slice A0 n0 c0) (.slice A1 n1 c1) n0 n1 xs0 xs1) := hd (H.out.grown hg)
 have HB1 : Hd (∀ w0, Below base w0 w → Below base w0 w1) := hd fun w0 hw => hw.grown hg hb (fun k hk => by cases hk)
 have hz1 : w.heap.size ≤ w1.heap.size := hg.size
 clear hrun' hown hg
 go_loopw [4] (fun kv wr => ∃ (kk : Int) (k : Nat) (ys0 ys1 : List Value), (kk = 0 ∧ k = 0 ∨ kk = 1 ∧ k = 1 ∨ kk = 2 ∧ k = 2) ∧ kv = .int .i64 kk ∧ Hd (Ph1 wr base g (.slice A0 n0 c0) (.slice A1 n1 c1) n0 n1 ys0 ys1) ∧ Hd (0 < k → ys0 = mks 0 n0) ∧ Hd (1 < k → ys1 = mks 1 n1) ∧ Hd (wr.heap[w.heap.size]? = some (.cells #[.slice none 0 0, .slice none 0 0] 22 (0, 0))) ∧ Hd (∀ w0, Below base w0 w → Below base w0 wr)) (fun kv _ => 2 - (intOf kv).toNat)
 case atStart => exact ⟨0, 0, xs0, xs1, .inl ⟨rfl, rfl⟩, rfl, HP1, hd (fun h => absurd h (by omega)), hd (fun h => absurd h (by omega)), HGS1, HB1⟩
 case round =>
  clear HP1 HGS1 HB1
  obtain ⟨kk, k, ys0, ys1, hkk, rfl, HP, HY0, HY1, HGS, HB⟩ := hrel
  rcases hkk with ⟨rfl, rfl⟩ | ⟨rfl, rfl⟩ | ⟨rfl, rfl⟩
  ·go_wp2
   go_loopw [5] (fun iv wr => ∃ i : Nat, i ≤ n0 ∧ iv = .int .i64 (i : Int) ∧ Hd (Ph1 wr base g (.slice A0 n0 c0) (.slice A1 n1 c1) n0 n1 (mks 0 i ++ ys0.drop i) ys1) ∧ Hd (wr.heap[w.heap.size]? = some (.cells #[.slice none 0 0, .slice none 0 0] 22 (0, 0))) ∧ Hd (∀ w0, Below base w0 w → Below base w0 wr)) (fun iv _ => n0 - (intOf iv).toNat)
   case atStart => exact ⟨0, by omega, rfl, hd (by simpa [mks] using HP.out), HGS, HB⟩
   case round =>
    have HYL : Hd (ys0.length = n0) := hd (by have := HP.out.o0.1; omega)
    clear HP HGS HB
    obtain ⟨i, hi, rfl, HP, HGS, HB⟩ := hrel
    by_cases hin : i < n0
    ·have hin' : (i : Int) < (n0 : Int) := by omega
     obtain ⟨b, cc, e, hbb⟩ := own_slice_of HP.out.o0 (by omega)
     cases e
     have HBG : Hd (w.heap.size ≠ b) := hd fun e => by have := HL0.out b rfl; omega
     have s0 : wr.cell? ⟨g, 0, none⟩ = some (.slice (some ⟨b, 0, none⟩) n0 c0) := (blk_cell HP.out.hg 0).trans rfl
     go_wp2_with fail
     clear s0
     replace HP := hd (HP.out.drewN 1)
     replace HP : Hd (Ph1 wr.drew _ _ _ _ _ _ _ _) := HP
     replace HGS : Hd (wr.drew.heap[w.heap.size]? = _) := hd (HGS.out)
     replace HB : Hd (∀ w0, Below base w0 w → Below base w0 wr.drew) := hd fun w0 hw => below_drew1 (HB.out w0 hw)
     refine start_ (n := 10) (S := fun w' => w'.cell? ⟨g, 0, none⟩ = some (.slice (some ⟨b, 0, none⟩) n0 c0)) (ds := [9]) kartN10 (by kernel_rfl) rfl rfl ((blk_cell HP.out.hg 0).trans rfl) (fun hHeld => ?_)
     refine with_tabW apart.tab8 apart.bits8 (fun HT_ HW_ => ?_)
     generalize wr.drew = w6 at HP HGS HB hHeld ⊢
     refine pure_ (i := 0) (N := (some 29)) (v := ?_) (a' := ?_) kartN9 rfl rfl (any_of HT_.out (by kernel_rfl)) (fun _ _ _ h => h) (Or.inl ⟨by rfl, ?_⟩) ?_ ?_
     rotate_left
     ·intro w'
      go_simp
      with_reducible rfl
     rotate_left
     ·simp only [Act.put, List.setIfInBounds_toArray, List.set_cons_zero, List.set_cons_succ, i64_w, i32_w]
      rfl
     refine pure_ (i := 1) (N := (some 30)) (v := ?_) (a' := ?_) kartN8 rfl rfl (any_of HT_.out (by kernel_rfl)) (fun _ _ _ h => h) (Or.inl ⟨by rfl, ?_⟩) ?_ ?_
     rotate_left
     ·intro w'
      go_simp
      with_reducible rfl
     rotate_left
     ·simp only [Act.put, List.setIfInBounds_toArray, List.set_cons_zero, List.set_cons_succ, i64_w, i32_w]
      rfl
     refine pure_ (i := 2) (N := (some 31)) (v := ?_) (a' := ?_) kartN7 rfl rfl (any_of HT_.out (by kernel_rfl)) (fun _ _ _ h => h) (Or.inl ⟨by rfl, ?_⟩) ?_ ?_
     rotate_left
     ·intro w'
      go_simp
      with_reducible rfl
     rotate_left
     ·simp only [Act.put, List.setIfInBounds_toArray, List.set_cons_zero, List.set_cons_succ, i64_w, i32_w]
      rfl
     refine take_ (i := 3) (N := (some 32)) (v := ?_) (a' := ?_) kartN6 rfl rfl (take_ofW HT_.out HW_.out (by kernel_rfl)) (fun _ _ _ h => h) (Or.inl ⟨by rfl, ?_⟩) hHeld ?_ ?_
     rotate_left
     ·rintro w' s0
      go_simp
      with_reducible rfl
     rotate_left
     ·simp only [Act.put, List.setIfInBounds_toArray, List.set_cons_zero, List.set_cons_succ, i64_w, i32_w]
      rfl
     refine pure_ (i := 4) (N := (some 33)) (v := ?_) (a' := ?_) kartN5 rfl rfl (any_of HT_.out (by kernel_rfl)) (fun _ _ _ h => h) (Or.inl ⟨by rfl, ?_⟩) ?_ ?_
     rotate_left
     ·intro w'
      go_simp
      with_reducible rfl
     rotate_left
     ·simp only [Act.put, List.setIfInBounds_toArray, List.set_cons_zero, List.set_cons_succ, i64_w, i32_w]
      rfl
     refine pure_ (i := 5) (N := (some 34)) (v := ?_) (a' := ?_) kartN4 rfl rfl (any_of HT_.out (by kernel_rfl)) (fun _ _ _ h => h) (Or.inl ⟨by rfl, ?_⟩) ?_ ?_
     rotate_left
     ·intro w'
      go_simp
      with_reducible rfl
     rotate_left
     ·simp only [Act.put, List.setIfInBounds_toArray, List.set_cons_zero, List.set_cons_succ, i64_w, i32_w]
      rfl
     refine pure_ (i := 6) (N := (some 35)) (v := ?_) (a' := ?_) kartN3 rfl rfl (any_of HT_.out (by kernel_rfl)) (fun _ _ _ h => h) (Or.inl ⟨by rfl, ?_⟩) ?_ ?_
     rotate_left
     ·intro w'
      go_simp
      with_reducible rfl
     rotate_left
     ·simp only [Act.put, List.setIfInBounds_toArray, List.set_cons_zero, List.set_cons_succ, i64_w, i32_w]
      rfl
     refine one_ (i := 7) (N := (some 36)) kartN2 rfl rfl (one_of HT_.out (by kernel_rfl)) (by decide) (fun K hK => ?_)
     refine goes_ Try.func43 (by kernel_rfl) rfl #[.int .i64 0, .int .i64 (i : Int)] (by rfl) rfl rfl (by (try simp only [List.map_toArray, List.map_cons, List.map_nil]); first | done | rfl) ?_
     refine (musterlow_mark.calls 0 (i : Int) (mk 0 (i : Int)) w6 rfl).mono ?_
     rintro e w_ ⟨rfl, nd, rfl⟩
     refine ⟨_, rfl, ?_⟩
     replace HP := hd (HP.out.drewN nd)
     replace HGS : Hd ((w6.drewN nd).heap[w.heap.size]? = _) := hd (HGS.out)
     replace HB : Hd (∀ w0, Below base w0 w → Below base w0 (w6.drewN nd)) := hd fun w0 hw => pw_below_drewN (HB.out w0 hw) nd
     refine hK.out _ _ hHeld (fun hHeld => ?_)
     clear hK K
     generalize w6.drewN nd = w7 at HP HGS HB hHeld ⊢
     have HP7 := HP
     clear HP
     refine norm_ (a' := ?_) ?_ ?_
     rotate_left
     ·show Act.put _ (some 36) _ = _
      simp only [Act.put, List.setIfInBounds_toArray, List.set_cons_zero, List.set_cons_succ, i64_w, i32_w]
      rfl
     refine pure_ (i := 8) (N := (some 37)) (v := ?_) (a' := ?_) kartN1 rfl rfl (any_of HT_.out (by kernel_rfl)) (fun _ _ _ h => h) (Or.inl ⟨by rfl, ?_⟩) ?_ ?_
     rotate_left
     ·intro w'
      go_simp
      with_reducible rfl
     rotate_left
     ·simp only [Act.put, List.setIfInBounds_toArray, List.set_cons_zero, List.set_cons_succ, i64_w, i32_w]
      rfl
     refine last_ (i := 9) (N := none) kartN0 rfl rfl (one_of HT_.out (by kernel_rfl)) (by decide) (fun K hK => ?_)
     have HP8 := hd (HP7.out.store0 rfl i (.int .i64 (mk 0 i)))
     have hset : ((mks 0 i ++ ys0.drop i)).set i (.int .i64 (mk 0 i)) = mks 0 (i + 1) ++ ys0.drop (i + 1) := mks_set 0 i n0 ys0 (by have := HYL.out; omega) (by omega)
     rw [hset] at HP8
     have hcb := HP7.out.o0.cellAt i (by omega)
     obtain ⟨old, hold⟩ : ∃ old, (mks 0 i ++ ys0.drop i)[i]? = some old := ⟨_, List.getElem?_eq_getElem (by rw [List.length_append, mks_len, List.length_drop]; have := HYL.out; omega)⟩
     rw [hold] at hcb
     have hfb := HP7.out.o0.frozenAt i
     refine skip_ (w1 := w7.setCell ⟨b, i, none⟩ (.int .i64 (mk 0 i))) (by rfl) rfl ?_ ?_
     ·go_simp
     refine hK.out _ _ ?_
     clear hK K hcb hold hfb hset
     replace HGS : Hd ((w7.setCell ⟨b, i, none⟩ (.int .i64 (mk 0 i))).heap[w.heap.size]? = _) := hd (blk_far HGS.out HBG.out _)
     replace HB : Hd (∀ w0, Below base w0 w → Below base w0 (w7.setCell ⟨b, i, none⟩ (.int .i64 (mk 0 i)))) := hd fun w0 hw => (HB.out w0 hw).setCell (p := ⟨b, i, none⟩) hbb _
     clear HP7
     refine done_ (done_of HT_.out (by kernel_rfl)) ?_
     clear HT_ HW_
     go_wp2
     go_roundw
     case rel => exact ⟨i + 1, by omega, by go_num, HP8, HGS, HB⟩
     case measure => simp [intOf]; omega
    ·have hie : i = n0 := by omega
     subst hie
     have hdr : ys0.drop i = [] := List.drop_eq_nil_of_le (by have := HYL.out; omega)
     rw [hdr, List.append_nil] at HP
     have hnin : ¬ ((i : Int) < (i : Int)) := by omega
     have s0 : wr.cell? ⟨g, 0, none⟩ = some (.slice A0 i c0) := (blk_cell HP.out.hg 0).trans rfl
     go_wp2
     clear s0
     go_roundw
     case rel => exact ⟨1, 1, mks 0 i, ys1, .inr (.inl ⟨rfl, rfl⟩), by go_num, HP, hd (fun _ => rfl), hd (fun h => absurd h (by omega)), HGS, HB⟩
     case measure => simp [intOf]
  ·go_wp2
   go_loopw [5] (fun iv wr => ∃ i : Nat, i ≤ n1 ∧ iv = .int .i64 (i : Int) ∧ Hd (Ph1 wr base g (.slice A0 n0 c0) (.slice A1 n1 c1) n0 n1 ys0 (mks 1 i ++ ys1.drop i)) ∧ Hd (wr.heap[w.heap.size]? = some (.cells #[.slice none 0 0, .slice none 0 0] 22 (0, 0))) ∧ Hd (∀ w0, Below base w0 w → Below base w0 wr)) (fun iv _ => n1 - (intOf iv).toNat)
   case atStart => exact ⟨0, by omega, rfl, hd (by simpa [mks] using HP.out), HGS, HB⟩
   case round =>
    have HYL : Hd (ys1.length = n1) := hd (by have := HP.out.o1.1; omega)
    clear HP HGS HB
    obtain ⟨i, hi, rfl, HP, HGS, HB⟩ := hrel
    by_cases hin : i < n1
    ·have hin' : (i : Int) < (n1 : Int) := by omega
     obtain ⟨b, cc, e, hbb⟩ := own_slice_of HP.out.o1 (by omega)
     cases e
     have HBG : Hd (w.heap.size ≠ b) := hd fun e => by have := HL1.out b rfl; omega
     have s0 : wr.cell? ⟨g, 1, none⟩ = some (.slice (some ⟨b, 0, none⟩) n1 c1) := (blk_cell HP.out.hg 1).trans rfl
     go_wp2_with fail
     clear s0
     replace HP := hd (HP.out.drewN 1)
     replace HP : Hd (Ph1 wr.drew _ _ _ _ _ _ _ _) := HP
     replace HGS : Hd (wr.drew.heap[w.heap.size]? = _) := hd (HGS.out)
     replace HB : Hd (∀ w0, Below base w0 w → Below base w0 wr.drew) := hd fun w0 hw => below_drew1 (HB.out w0 hw)
     refine start_ (n := 10) (S := fun w' => w'.cell? ⟨g, 1, none⟩ = some (.slice (some ⟨b, 0, none⟩) n1 c1)) (ds := [9]) kartN10 (by kernel_rfl) rfl rfl ((blk_cell HP.out.hg 1).trans rfl) (fun hHeld => ?_)
     refine with_tabW apart.tab8 apart.bits8 (fun HT_ HW_ => ?_)
     generalize wr.drew = w6 at HP HGS HB hHeld ⊢
     refine pure_ (i := 0) (N := (some 29)) (v := ?_) (a' := ?_) kartN9 rfl rfl (any_of HT_.out (by kernel_rfl)) (fun _ _ _ h => h) (Or.inl ⟨by rfl, ?_⟩) ?_ ?_
     rotate_left
     ·intro w'
      go_simp
      with_reducible rfl
     rotate_left
     ·simp only [Act.put, List.setIfInBounds_toArray, List.set_cons_zero, List.set_cons_succ, i64_w, i32_w]
      rfl
     refine pure_ (i := 1) (N := (some 30)) (v := ?_) (a' := ?_) kartN8 rfl rfl (any_of HT_.out (by kernel_rfl)) (fun _ _ _ h => h) (Or.inl ⟨by rfl, ?_⟩) ?_ ?_
     rotate_left
     ·intro w'
      go_simp
      with_reducible rfl
     rotate_left
     ·simp only [Act.put, List.setIfInBounds_toArray, List.set_cons_zero, List.set_cons_succ, i64_w, i32_w]
      rfl
     refine pure_ (i := 2) (N := (some 31)) (v := ?_) (a' := ?_) kartN7 rfl rfl (any_of HT_.out (by kernel_rfl)) (fun _ _ _ h => h) (Or.inl ⟨by rfl, ?_⟩) ?_ ?_
     rotate_left
     ·intro w'
      go_simp
      with_reducible rfl
     rotate_left
     ·simp only [Act.put, List.setIfInBounds_toArray, List.set_cons_zero, List.set_cons_succ, i64_w, i32_w]
      rfl
     refine take_ (i := 3) (N := (some 32)) (v := ?_) (a' := ?_) kartN6 rfl rfl (take_ofW HT_.out HW_.out (by kernel_rfl)) (fun _ _ _ h => h) (Or.inl ⟨by rfl, ?_⟩) hHeld ?_ ?_
     rotate_left
     ·rintro w' s0
      go_simp
      with_reducible rfl
     rotate_left
     ·simp only [Act.put, List.setIfInBounds_toArray, List.set_cons_zero, List.set_cons_succ, i64_w, i32_w]
      rfl
     refine pure_ (i := 4) (N := (some 33)) (v := ?_) (a' := ?_) kartN5 rfl rfl (any_of HT_.out (by kernel_rfl)) (fun _ _ _ h => h) (Or.inl ⟨by rfl, ?_⟩) ?_ ?_
     rotate_left
     ·intro w'
      go_simp
      with_reducible rfl
     rotate_left
     ·simp only [Act.put, List.setIfInBounds_toArray, List.set_cons_zero, List.set_cons_succ, i64_w, i32_w]
      rfl
     refine pure_ (i := 5) (N := (some 34)) (v := ?_) (a' := ?_) kartN4 rfl rfl (any_of HT_.out (by kernel_rfl)) (fun _ _ _ h => h) (Or.inl ⟨by rfl, ?_⟩) ?_ ?_
     rotate_left
     ·intro w'
      go_simp
      with_reducible rfl
     rotate_left
     ·simp only [Act.put, List.setIfInBounds_toArray, List.set_cons_zero, List.set_cons_succ, i64_w, i32_w]
      rfl
     refine pure_ (i := 6) (N := (some 35)) (v := ?_) (a' := ?_) kartN3 rfl rfl (any_of HT_.out (by kernel_rfl)) (fun _ _ _ h => h) (Or.inl ⟨by rfl, ?_⟩) ?_ ?_
     rotate_left
     ·intro w'
      go_simp
      with_reducible rfl
     rotate_left
     ·simp only [Act.put, List.setIfInBounds_toArray, List.set_cons_zero, List.set_cons_succ, i64_w, i32_w]
      rfl
     refine one_ (i := 7) (N := (some 36)) kartN2 rfl rfl (one_of HT_.out (by kernel_rfl)) (by decide) (fun K hK => ?_)
     refine goes_ Try.func43 (by kernel_rfl) rfl #[.int .i64 1, .int .i64 (i : Int)] (by rfl) rfl rfl (by (try simp only [List.map_toArray, List.map_cons, List.map_nil]); first | done | rfl) ?_
     refine (musterlow_mark.calls 1 (i : Int) (mk 1 (i : Int)) w6 rfl).mono ?_
     rintro e w_ ⟨rfl, nd, rfl⟩
     refine ⟨_, rfl, ?_⟩
     replace HP := hd (HP.out.drewN nd)
     replace HGS : Hd ((w6.drewN nd).heap[w.heap.size]? = _) := hd (HGS.out)
     replace HB : Hd (∀ w0, Below base w0 w → Below base w0 (w6.drewN nd)) := hd fun w0 hw => pw_below_drewN (HB.out w0 hw) nd
     refine hK.out _ _ hHeld (fun hHeld => ?_)
     clear hK K
     generalize w6.drewN nd = w7 at HP HGS HB hHeld ⊢
     have HP7 := HP
     clear HP
     refine norm_ (a' := ?_) ?_ ?_
     rotate_left
     ·show Act.put _ (some 36) _ = _
      simp only [Act.put, List.setIfInBounds_toArray, List.set_cons_zero, List.set_cons_succ, i64_w, i32_w]
      rfl
     refine pure_ (i := 8) (N := (some 37)) (v := ?_) (a' := ?_) kartN1 rfl rfl (any_of HT_.out (by kernel_rfl)) (fun _ _ _ h => h) (Or.inl ⟨by rfl, ?_⟩) ?_ ?_
     rotate_left
     ·intro w'
      go_simp
      with_reducible rfl
     rotate_left
     ·simp only [Act.put, List.setIfInBounds_toArray, List.set_cons_zero, List.set_cons_succ, i64_w, i32_w]
      rfl
     refine last_ (i := 9) (N := none) kartN0 rfl rfl (one_of HT_.out (by kernel_rfl)) (by decide) (fun K hK => ?_)
     have HP8 := hd (HP7.out.store1 rfl i (.int .i64 (mk 1 i)))
     have hset : ((mks 1 i ++ ys1.drop i)).set i (.int .i64 (mk 1 i)) = mks 1 (i + 1) ++ ys1.drop (i + 1) := mks_set 1 i n1 ys1 (by have := HYL.out; omega) (by omega)
     rw [hset] at HP8
     have hcb := HP7.out.o1.cellAt i (by omega)
     obtain ⟨old, hold⟩ : ∃ old, (mks 1 i ++ ys1.drop i)[i]? = some old := ⟨_, List.getElem?_eq_getElem (by rw [List.length_append, mks_len, List.length_drop]; have := HYL.out; omega)⟩
     rw [hold] at hcb
     have hfb := HP7.out.o1.frozenAt i
     refine skip_ (w1 := w7.setCell ⟨b, i, none⟩ (.int .i64 (mk 1 i))) (by rfl) rfl ?_ ?_
     ·go_simp
     refine hK.out _ _ ?_
     clear hK K hcb hold hfb hset
     replace HGS : Hd ((w7.setCell ⟨b, i, none⟩ (.int .i64 (mk 1 i))).heap[w.heap.size]? = _) := hd (blk_far HGS.out HBG.out _)
     replace HB : Hd (∀ w0, Below base w0 w → Below base w0 (w7.setCell ⟨b, i, none⟩ (.int .i64 (mk 1 i)))) := hd fun w0 hw => (HB.out w0 hw).setCell (p := ⟨b, i, none⟩) hbb _
     clear HP7
     refine done_ (done_of HT_.out (by kernel_rfl)) ?_
     clear HT_ HW_
     go_wp2
     go_roundw
     case rel => exact ⟨i + 1, by omega, by go_num, HP8, HGS, HB⟩
     case measure => simp [intOf]; omega
    ·have hie : i = n1 := by omega
     subst hie
     have hdr : ys1.drop i = [] := List.drop_eq_nil_of_le (by have := HYL.out; omega)
     rw [hdr, List.append_nil] at HP
     have hnin : ¬ ((i : Int) < (i : Int)) := by omega
     have s0 : wr.cell? ⟨g, 1, none⟩ = some (.slice A1 i c1) := (blk_cell HP.out.hg 1).trans rfl
     go_wp2
     clear s0
     go_roundw
     case rel => exact ⟨2, 2, ys0, mks 1 i, .inr (.inr ⟨rfl, rfl⟩), by go_num, HP, hd (fun _ => HY0.out (by omega)), hd (fun _ => rfl), HGS, HB⟩
     case measure => simp [intOf]
  ·have e0 := HY0.out (by omega)
   have e1 := HY1.out (by omega)
   subst e0
   subst e1
   clear HY0 HY1
   have HPA : Hd (PhA wr base g w.heap.size n0 n1 (.slice A0 n0 c0) (.slice A1 n1 c1)) := hd ⟨HP.out, hb, fun e => by omega, HGS.out, fun e => by have := HL0.out _ e; omega, fun e => by have := HL1.out _ e; omega⟩
   go_wp2
   clear HP HGS
   go_loopw [6] (fun kv wr => ∃ kk : Int, kv = .int .i64 kk ∧ Hd (∀ w0, Below base w0 w → Below base w0 wr) ∧ (kk = 0 ∧ Hd (PhA wr base g w.heap.size n0 n1 (.slice A0 n0 c0) (.slice A1 n1 c1)) ∨ kk = 1 ∧ (∃ q0, Hd (PhB wr base g w.heap.size n0 n1 (.slice A0 n0 c0) (.slice A1 n1 c1) q0)) ∨ kk = 2 ∧ ∃ q0 q1, Hd (PhC wr g w.heap.size n0 n1 (.slice A0 n0 c0) (.slice A1 n1 c1) q0 q1))) (fun kv _ => 2 - (intOf kv).toNat)
   case atStart => exact ⟨0, rfl, HB, .inl ⟨rfl, HPA⟩⟩
   case round =>
    clear HPA HB
    obtain ⟨kk, rfl, HB, hkk⟩ := hrel
    rcases hkk with ⟨rfl, HP⟩ | ⟨rfl, q0, HP⟩ | ⟨rfl, q0, q1, HP⟩
    ·have s0 : wr.cell? ⟨g, 0, none⟩ = some (.slice A0 n0 c0) := (blk_cell HP.out.p1.hg 0).trans rfl
     go_wp2
     clear s0
     obtain ⟨W, hW⟩ : ∃ W, W = wr := ⟨_, rfl⟩
     subst hW
     have HZ00 : w.heap.size ≤ W.heap.size := (HB.out w (Below.refl _ _)).size
     go_loopw [7, 8] (fun uv jv w2 => ∃ j : Nat, j ≤ 40 ∧ jv = .int .i64 (j : Int) ∧ Hd (Ext W w2 base 0 n0 (.slice A0 n0 c0) uv j) ∧ Hd (∀ w0, Below base w0 w → Below base w0 w2)) (fun _ jv _ => 40 - (intOf jv).toNat)
     case atStart => exact ⟨0, by omega, rfl, hd (Ext.start HP.out.p1.o0), HB⟩
     case round =>
      clear HB
      have HP0 : Hd (W.heap[g]? = _) := hd HP.out.p1.hg
      have HNG : Hd ((Value.slice A0 n0 c0).ownBlock ≠ some g) := hd HP.out.p1.g0
      have HZ0 : w.heap.size ≤ W.heap.size := HZ00
      have HGL : g < W.heap.size := blk_lt HP.out.p1.hg
      obtain ⟨j, hj, rfl, HE, HB⟩ := hrel
      by_cases hjn : j < 40
      ·have hjn' : (j : Int) < 40 := by omega
       have HG2 : Hd (wr.heap[g]? = _) := hd ((HE.out.gr.block g HGL (fun hh => HNG.out hh.symm)).trans HP0.out)
       have s0 : wr.cell? ⟨g, 0, none⟩ = some (.slice A0 n0 c0) := (blk_cell HG2.out 0).trans rfl
       have HZW : W.heap.size ≤ wr.heap.size := HE.out.gr.size
       obtain ⟨Au, cu, rfl⟩ := own_slice HE.out.own
       have hw1 : wrap64 ((n0 : Int) + (j : Int)) = ((n0 + j : Nat) : Int) := by unfold wrap64; omega
       go_wp2_with fail
       clear s0 hw1
       refine (musterlow_mark.calls 0 ((n0 + j : Nat) : Int) (mk 0 ((n0 + j : Nat) : Int)) wr rfl).mono ?_
       rintro e w_ ⟨rfl, nd, rfl⟩
       replace HE : Hd (Ext W (wr.drewN nd) base 0 n0 (.slice A0 n0 c0) (.slice Au (n0 + j) cu) j) := hd ⟨HE.out.own, HE.out.rd, ⟨HE.out.gr.os, HE.out.gr.tape, HE.out.gr.output, HE.out.gr.size, HE.out.gr.block⟩, HE.out.at_⟩
       replace HB : Hd (∀ w0, Below base w0 w → Below base w0 (wr.drewN nd)) := hd fun w0 hw => pw_below_drewN (HB.out w0 hw) nd
       generalize wr.drewN nd = w5 at HE HB ⊢
       have hbw : base ≤ w5.heap.size := by have := (HB.out w (Below.refl _ _)).size; omega
       go_wp2_with ((with_reducible refine gate_builtin (b := .append) (xs := #[.tmp 52, .tmp 62]) rfl ?_); at_builtin; refine wp_append_keep w5 base rfl (.tmp 52) (.tmp 62) rfl (.slice Au (n0 + j) cu) (n0 + j) (mks 0 (n0 + j)) (.int .i64 (mk 0 ((n0 + j : Nat) : Int))) rfl rfl HE.out.own hbw rfl (by omega) ?_; intro v1 w6 ho hg hat; have HO := hd ho; have HGR := hd hg; have HAT := hd hat; clear ho hg hat)
       go_roundw
       case rel => exact ⟨j + 1, by omega, by go_num, hd (HE.out.step (fun b e => by have := HL0.out b e; omega) HO.out HGR.out HAT.out), hd fun w0 hw => (HB.out w0 hw).grown HGR.out (by omega) (fun k hk => (HE.out.own.lt k hk).1)⟩
       case measure => simp [intOf]; omega
      ·obtain rfl : j = 40 := by omega
       have hnj : ¬ (((40 : Nat) : Int) < 40) := by omega
       obtain ⟨Au, cu, rfl⟩ := own_slice HE.out.own
       have HG2 : Hd (wr.heap[w.heap.size]? = _) := hd ((HE.out.gr.block _ (blk_lt HP.out.hs) (fun hh => HP.out.s0 hh.symm)).trans HP.out.hs)
       have s1 := (blk_cell HG2.out 0).trans rfl
       have s2 := blk_frozen HG2.out 0
       have hbw : base ≤ w.heap.size := hb
       go_wp2
       clear s1 s2
       go_roundw
       case rel => exact ⟨1, by go_num, hd fun w0 hw => (HB.out w0 hw).setCell (p := ⟨w.heap.size, 0, none⟩) hbw _, .inr (.inl ⟨rfl, _, hd (HP.out.next HE.out)⟩)⟩
       case measure => simp [intOf]
    ·have s0 : wr.cell? ⟨g, 1, none⟩ = some (.slice A1 n1 c1) := (blk_cell HP.out.hg 1).trans rfl
     go_wp2
     clear s0
     obtain ⟨W, hW⟩ : ∃ W, W = wr := ⟨_, rfl⟩
     subst hW
     have HZ00 : w.heap.size ≤ W.heap.size := (HB.out w (Below.refl _ _)).size
     go_loopw [7, 8] (fun uv jv w2 => ∃ j : Nat, j ≤ 40 ∧ jv = .int .i64 (j : Int) ∧ Hd (Ext W w2 base 1 n1 (.slice A1 n1 c1) uv j) ∧ Hd (∀ w0, Below base w0 w → Below base w0 w2)) (fun _ jv _ => 40 - (intOf jv).toNat)
     case atStart => exact ⟨0, by omega, rfl, hd (Ext.start HP.out.o1), HB⟩
     case round =>
      clear HB
      have HP0 : Hd (W.heap[g]? = _) := hd HP.out.hg
      have HNG : Hd ((Value.slice A1 n1 c1).ownBlock ≠ some g) := hd HP.out.g1
      have HZ0 : w.heap.size ≤ W.heap.size := HZ00
      have HGL : g < W.heap.size := blk_lt HP.out.hg
      obtain ⟨j, hj, rfl, HE, HB⟩ := hrel
      by_cases hjn : j < 40
      ·have hjn' : (j : Int) < 40 := by omega
       have HG2 : Hd (wr.heap[g]? = _) := hd ((HE.out.gr.block g HGL (fun hh => HNG.out hh.symm)).trans HP0.out)
       have s0 : wr.cell? ⟨g, 1, none⟩ = some (.slice A1 n1 c1) := (blk_cell HG2.out 1).trans rfl
       have HZW : W.heap.size ≤ wr.heap.size := HE.out.gr.size
       obtain ⟨Au, cu, rfl⟩ := own_slice HE.out.own
       have hw1 : wrap64 ((n1 : Int) + (j : Int)) = ((n1 + j : Nat) : Int) := by unfold wrap64; omega
       go_wp2_with fail
       clear s0 hw1
       refine (musterlow_mark.calls 1 ((n1 + j : Nat) : Int) (mk 1 ((n1 + j : Nat) : Int)) wr rfl).mono ?_
       rintro e w_ ⟨rfl, nd, rfl⟩
       replace HE : Hd (Ext W (wr.drewN nd) base 1 n1 (.slice A1 n1 c1) (.slice Au (n1 + j) cu) j) := hd ⟨HE.out.own, HE.out.rd, ⟨HE.out.gr.os, HE.out.gr.tape, HE.out.gr.output, HE.out.gr.size, HE.out.gr.block⟩, HE.out.at_⟩
       replace HB : Hd (∀ w0, Below base w0 w → Below base w0 (wr.drewN nd)) := hd fun w0 hw => pw_below_drewN (HB.out w0 hw) nd
       generalize wr.drewN nd = w5 at HE HB ⊢
       have hbw : base ≤ w5.heap.size := by have := (HB.out w (Below.refl _ _)).size; omega
       go_wp2_with ((with_reducible refine gate_builtin (b := .append) (xs := #[.tmp 52, .tmp 62]) rfl ?_); at_builtin; refine wp_append_keep w5 base rfl (.tmp 52) (.tmp 62) rfl (.slice Au (n1 + j) cu) (n1 + j) (mks 1 (n1 + j)) (.int .i64 (mk 1 ((n1 + j : Nat) : Int))) rfl rfl HE.out.own hbw rfl (by omega) ?_; intro v1 w6 ho hg hat; have HO := hd ho; have HGR := hd hg; have HAT := hd hat; clear ho hg hat)
       go_roundw
       case rel => exact ⟨j + 1, by omega, by go_num, hd (HE.out.step (fun b e => by have := HL1.out b e; omega) HO.out HGR.out HAT.out), hd fun w0 hw => (HB.out w0 hw).grown HGR.out (by omega) (fun k hk => (HE.out.own.lt k hk).1)⟩
       case measure => simp [intOf]; omega
      ·obtain rfl : j = 40 := by omega
       have hnj : ¬ (((40 : Nat) : Int) < 40) := by omega
       obtain ⟨Au, cu, rfl⟩ := own_slice HE.out.own
       have HG2 : Hd (wr.heap[w.heap.size]? = _) := hd ((HE.out.gr.block _ (blk_lt HP.out.hs) (fun hh => HP.out.s1 hh.symm)).trans HP.out.hs)
       have s1 := (blk_cell HG2.out 1).trans rfl
       have s2 := blk_frozen HG2.out 1
       have hbw : base ≤ w.heap.size := hb
       go_wp2
       clear s1 s2
       go_roundw
       case rel => exact ⟨2, by go_num, hd fun w0 hw => (HB.out w0 hw).setCell (p := ⟨w.heap.size, 1, none⟩) hbw _, .inr (.inr ⟨rfl, _, _, hd (HP.out.next HE.out)⟩)⟩
       case measure => simp [intOf]
    ·go_wp2
     go_loopw [9] (fun kv wr => ∃ kk : Int, kv = .int .i64 kk ∧ (kk = 0 ∨ kk = 1 ∨ kk = 2) ∧ Hd (PhC wr g w.heap.size n0 n1 (.slice A0 n0 c0) (.slice A1 n1 c1) q0 q1) ∧ Hd (∀ w0, Below base w0 w → Below base w0 wr)) (fun kv _ => 2 - (intOf kv).toNat)
     case atStart => exact ⟨0, rfl, .inl rfl, HP, HB⟩
     case round =>
      clear HP HB
      obtain ⟨kk, rfl, hkk, HP, HB⟩ := hrel
      rcases hkk with rfl | rfl | rfl
      ·obtain ⟨b, cq, e, _, _⟩ := HP.out.rq0 (by omega)
       cases e
       go_wp2
       go_loopw [10] (fun iv wr => ∃ i : Nat, i ≤ n0 + 40 ∧ iv = .int .i64 (i : Int) ∧ Hd (PhC wr g w.heap.size n0 n1 (.slice A0 n0 c0) (.slice A1 n1 c1) (.slice (some ⟨b, 0, none⟩) (n0 + 40) cq) q1) ∧ Hd (∀ w0, Below base w0 w → Below base w0 wr)) (fun iv _ => n0 + 40 - (intOf iv).toNat)
       case atStart => exact ⟨0, by omega, rfl, HP, HB⟩
       case round =>
        clear HP HB
        obtain ⟨i, hi, rfl, HP, HB⟩ := hrel
        have s0 : wr.cell? ⟨w.heap.size, 0, none⟩ = some (.slice (some ⟨b, 0, none⟩) (n0 + 40) cq) := (blk_cell HP.out.hs 0).trans rfl
        by_cases hin : i < n0 + 40
        ·have hin' : (i : Int) < ((n0 + 40 : Nat) : Int) := by omega
         obtain ⟨b', c', e, hbl, hcc⟩ := HP.out.rq0 (by omega)
         cases e
         have hci := (hcc i hin).trans (mks_get 0 (n0 + 40) i hin)
         clear hcc hbl
         go_wp2_with fail
         clear s0
         replace HP : Hd (PhC wr.drew _ _ _ _ _ _ _ _) := hd (HP.out.drewN 1)
         replace hci : wr.drew.cell? ⟨b, i, none⟩ = some (.int .i64 (mk 0 i)) := hci
         replace HB : Hd (∀ w0, Below base w0 w → Below base w0 wr.drew) := hd fun w0 hw => below_drew1 (HB.out w0 hw)
         by_cases hn : i < n0
         ·obtain ⟨b2, c2, e, hbl, hcc⟩ := HP.out.r0 (by omega)
          cases e
          have hci2 := (hcc i hn).trans (mks_get 0 n0 i hn)
          clear hcc hbl
          have hlt : decide ((i : Int) < (n0 : Int)) = true := decide_eq_true (by omega)
          refine start_ (n := 33) (S := fun w' => w'.cell? ⟨w.heap.size, 0, none⟩ = some (.slice (some ⟨b, 0, none⟩) (n0 + 40) cq) ∧ w'.cell? ⟨b, i, none⟩ = some (.int .i64 (mk 0 i)) ∧ w'.cell? ⟨g, 0, none⟩ = some (.slice (some ⟨b2, 0, none⟩) n0 c0) ∧ w'.cell? ⟨b2, i, none⟩ = some (.int .i64 (mk 0 i))) (ds := []) kartN44 (by kernel_rfl) rfl rfl ⟨(blk_cell HP.out.hs 0).trans rfl, hci, (blk_cell HP.out.hg 0).trans rfl, hci2⟩ (fun hHeld => ?_)
          refine with_tabW apart.tab24 apart.bits24 (fun HT_ HW_ => ?_)
          generalize wr.drew = w6 at HP HB hHeld ⊢
          refine pure_ (i := 0) (N := (some 83)) (v := ?_) (a' := ?_) kartN43 rfl rfl (any_of HT_.out (by kernel_rfl)) (fun _ _ _ h => h) (Or.inl ⟨by rfl, ?_⟩) ?_ ?_
          rotate_left
          ·intro w'
           go_simp
           with_reducible rfl
          rotate_left
          ·simp only [Act.put, List.setIfInBounds_toArray, List.set_cons_zero, List.set_cons_succ, i64_w, i32_w]
           rfl
          refine pure_ (i := 1) (N := (some 84)) (v := ?_) (a' := ?_) kartN42 rfl rfl (any_of HT_.out (by kernel_rfl)) (fun _ _ _ h => h) (Or.inl ⟨by rfl, ?_⟩) ?_ ?_
          rotate_left
          ·intro w'
           go_simp
           with_reducible rfl
          rotate_left
          ·simp only [Act.put, List.setIfInBounds_toArray, List.set_cons_zero, List.set_cons_succ, i64_w, i32_w]
           rfl
          refine pure_ (i := 2) (N := (some 85)) (v := ?_) (a' := ?_) kartN41 rfl rfl (any_of HT_.out (by kernel_rfl)) (fun _ _ _ h => h) (Or.inl ⟨by rfl, ?_⟩) ?_ ?_
          rotate_left
          ·intro w'
           go_simp
           with_reducible rfl
          rotate_left
          ·simp only [Act.put, List.setIfInBounds_toArray, List.set_cons_zero, List.set_cons_succ, i64_w, i32_w]
           rfl
          refine take_ (i := 3) (N := (some 86)) (v := ?_) (a' := ?_) kartN40 rfl rfl (take_ofW HT_.out HW_.out (by kernel_rfl)) (fun _ _ _ h => h) (Or.inl ⟨by rfl, ?_⟩) hHeld ?_ ?_
          rotate_left
          ·rintro w' ⟨s0, s1, s2, s3⟩
           go_simp
           with_reducible rfl
          rotate_left
          ·simp only [Act.put, List.setIfInBounds_toArray, List.set_cons_zero, List.set_cons_succ, i64_w, i32_w]
           rfl
          refine pure_ (i := 4) (N := (some 87)) (v := ?_) (a' := ?_) kartN39 rfl rfl (any_of HT_.out (by kernel_rfl)) (fun _ _ _ h => h) (Or.inl ⟨by rfl, ?_⟩) ?_ ?_
          rotate_left
          ·intro w'
           go_simp
           with_reducible rfl
          rotate_left
          ·simp only [Act.put, List.setIfInBounds_toArray, List.set_cons_zero, List.set_cons_succ, i64_w, i32_w]
           rfl
          refine pure_ (i := 5) (N := (some 88)) (v := ?_) (a' := ?_) kartN38 rfl rfl (any_of HT_.out (by kernel_rfl)) (fun _ _ _ h => h) (Or.inl ⟨by rfl, ?_⟩) ?_ ?_
          rotate_left
          ·intro w'
           go_simp
           with_reducible rfl
          rotate_left
          ·simp only [Act.put, List.setIfInBounds_toArray, List.set_cons_zero, List.set_cons_succ, i64_w, i32_w]
           rfl
          refine take_ (i := 6) (N := (some 89)) (v := ?_) (a' := ?_) kartN37 rfl rfl (take_ofW HT_.out HW_.out (by kernel_rfl)) (fun _ _ _ h => h) (Or.inl ⟨by rfl, ?_⟩) hHeld ?_ ?_
          rotate_left
          ·rintro w' ⟨s0, s1, s2, s3⟩
           go_simp
           with_reducible rfl
          rotate_left
          ·simp only [Act.put, List.setIfInBounds_toArray, List.set_cons_zero, List.set_cons_succ, i64_w, i32_w]
           rfl
          refine pure_ (i := 7) (N := (some 90)) (v := ?_) (a' := ?_) kartN36 rfl rfl (any_of HT_.out (by kernel_rfl)) (fun _ _ _ h => h) (Or.inl ⟨by rfl, ?_⟩) ?_ ?_
          rotate_left
          ·intro w'
           go_simp
           with_reducible rfl
          rotate_left
          ·simp only [Act.put, List.setIfInBounds_toArray, List.set_cons_zero, List.set_cons_succ, i64_w, i32_w]
           rfl
          refine pure_ (i := 8) (N := (some 91)) (v := ?_) (a' := ?_) kartN35 rfl rfl (any_of HT_.out (by kernel_rfl)) (fun _ _ _ h => h) (Or.inl ⟨by rfl, ?_⟩) ?_ ?_
          rotate_left
          ·intro w'
           go_simp
           with_reducible rfl
          rotate_left
          ·simp only [Act.put, List.setIfInBounds_toArray, List.set_cons_zero, List.set_cons_succ, i64_w, i32_w]
           rfl
          refine one_ (i := 9) (N := (some 92)) kartN34 rfl rfl (one_of HT_.out (by kernel_rfl)) (by decide) (fun K hK => ?_)
          refine goes_ Try.func43 (by kernel_rfl) rfl #[.int .i64 0, .int .i64 (i : Int)] (by rfl) rfl rfl (by (try simp only [List.map_toArray, List.map_cons, List.map_nil]); first | done | rfl) ?_
          refine (musterlow_mark.calls 0 (i : Int) (mk 0 (i : Int)) w6 rfl).mono ?_
          rintro e w_ ⟨rfl, nd, rfl⟩
          refine ⟨_, rfl, ?_⟩
          replace HP := hd (HP.out.drewN nd)
          replace HB : Hd (∀ w0, Below base w0 w → Below base w0 (w6.drewN nd)) := hd fun w0 hw => pw_below_drewN (HB.out w0 hw) nd
          refine hK.out _ _ hHeld (fun hHeld => ?_)
          clear hK K
          generalize w6.drewN nd = w7 at HP HB hHeld ⊢
          refine norm_ (a' := ?_) ?_ ?_
          rotate_left
          ·show Act.put _ (some 92) _ = _
           simp only [Act.put, List.setIfInBounds_toArray, List.set_cons_zero, List.set_cons_succ, i64_w, i32_w]
           rfl
          refine pure_ (i := 10) (N := (some 93)) (v := ?_) (a' := ?_) kartN33 rfl rfl (any_of HT_.out (by kernel_rfl)) (fun _ _ _ h => h) (Or.inl ⟨by rfl, ?_⟩) ?_ ?_
          rotate_left
          ·intro w'
           go_simp
           try simp only [bne_self_eq_false]
           with_reducible rfl
          rotate_left
          ·simp only [Act.put, List.setIfInBounds_toArray, List.set_cons_zero, List.set_cons_succ, i64_w, i32_w]
           rfl
          refine pure_ (i := 11) (N := (some 94)) (v := ?_) (a' := ?_) kartN32 rfl rfl (any_of HT_.out (by kernel_rfl)) (fun _ _ _ h => h) (Or.inl ⟨by rfl, ?_⟩) ?_ ?_
          rotate_left
          ·intro w'
           go_simp
           with_reducible rfl
          rotate_left
          ·simp only [Act.put, List.setIfInBounds_toArray, List.set_cons_zero, List.set_cons_succ, i64_w, i32_w]
           rfl
          refine pure_ (i := 12) (N := (some 95)) (v := ?_) (a' := ?_) kartN31 rfl rfl (any_of HT_.out (by kernel_rfl)) (fun _ _ _ h => h) (Or.inl ⟨by rfl, ?_⟩) ?_ ?_
          rotate_left
          ·intro w'
           go_simp
           with_reducible rfl
          rotate_left
          ·simp only [Act.put, List.setIfInBounds_toArray, List.set_cons_zero, List.set_cons_succ, i64_w, i32_w]
           rfl
          refine pure_ (i := 13) (N := (some 96)) (v := ?_) (a' := ?_) kartN30 rfl rfl (any_of HT_.out (by kernel_rfl)) (fun _ _ _ h => h) (Or.inl ⟨by rfl, ?_⟩) ?_ ?_
          rotate_left
          ·intro w'
           go_simp
           with_reducible rfl
          rotate_left
          ·simp only [Act.put, List.setIfInBounds_toArray, List.set_cons_zero, List.set_cons_succ, i64_w, i32_w]
           rfl
          refine pure_ (i := 14) (N := (some 97)) (v := ?_) (a' := ?_) kartN29 rfl rfl (any_of HT_.out (by kernel_rfl)) (fun _ _ _ h => h) (Or.inl ⟨by rfl, ?_⟩) ?_ ?_
          rotate_left
          ·intro w'
           go_simp
           with_reducible rfl
          rotate_left
          ·simp only [Act.put, List.setIfInBounds_toArray, List.set_cons_zero, List.set_cons_succ, i64_w, i32_w]
           rfl
          refine pure_ (i := 15) (N := (some 98)) (v := ?_) (a' := ?_) kartN28 rfl rfl (any_of HT_.out (by kernel_rfl)) (fun _ _ _ h => h) (Or.inl ⟨by rfl, ?_⟩) ?_ ?_
          rotate_left
          ·intro w'
           go_simp
           with_reducible rfl
          rotate_left
          ·simp only [Act.put, List.setIfInBounds_toArray, List.set_cons_zero, List.set_cons_succ, i64_w, i32_w]
           rfl
          refine take_ (i := 16) (N := (some 99)) (v := ?_) (a' := ?_) kartN27 rfl rfl (take_ofW HT_.out HW_.out (by kernel_rfl)) (fun _ _ _ h => h) (Or.inl ⟨by rfl, ?_⟩) hHeld ?_ ?_
          rotate_left
          ·rintro w' ⟨s0, s1, s2, s3⟩
           go_simp
           with_reducible rfl
          rotate_left
          ·simp only [Act.put, List.setIfInBounds_toArray, List.set_cons_zero, List.set_cons_succ, i64_w, i32_w]
           rfl
          refine pure_ (i := 17) (N := (some 100)) (v := ?_) (a' := ?_) kartN26 rfl rfl (any_of HT_.out (by kernel_rfl)) (fun _ _ _ h => h) (Or.inl ⟨by rfl, ?_⟩) ?_ ?_
          rotate_left
          ·intro w'
           go_simp
           with_reducible rfl
          rotate_left
          ·simp only [Act.put, List.setIfInBounds_toArray, List.set_cons_zero, List.set_cons_succ, i64_w, i32_w]
           rfl
          refine pure_ (i := 18) (N := (some 101)) (v := ?_) (a' := ?_) kartN25 rfl rfl (any_of HT_.out (by kernel_rfl)) (fun _ _ _ h => h) (Or.inl ⟨by rfl, ?_⟩) ?_ ?_
          rotate_left
          ·intro w'
           go_simp
           try rw [hlt]
           with_reducible rfl
          rotate_left
          ·simp only [Act.put, List.setIfInBounds_toArray, List.set_cons_zero, List.set_cons_succ, i64_w, i32_w]
           rfl
          refine pure_ (i := 19) (N := (some 102)) (v := ?_) (a' := ?_) kartN24 rfl rfl (any_of HT_.out (by kernel_rfl)) (fun _ _ _ h => h) (Or.inl ⟨by rfl, ?_⟩) ?_ ?_
          rotate_left
          ·intro w'
           go_simp
           with_reducible rfl
          rotate_left
          ·simp only [Act.put, List.setIfInBounds_toArray, List.set_cons_zero, List.set_cons_succ, i64_w, i32_w]
           rfl
          refine pure_ (i := 20) (N := (some 103)) (v := ?_) (a' := ?_) kartN23 rfl rfl (any_of HT_.out (by kernel_rfl)) (fun _ _ _ h => h) (Or.inl ⟨by rfl, ?_⟩) ?_ ?_
          rotate_left
          ·intro w'
           go_simp
           with_reducible rfl
          rotate_left
          ·simp only [Act.put, List.setIfInBounds_toArray, List.set_cons_zero, List.set_cons_succ, i64_w, i32_w]
           rfl
          refine pure_ (i := 21) (N := (some 104)) (v := ?_) (a' := ?_) kartN22 rfl rfl (any_of HT_.out (by kernel_rfl)) (fun _ _ _ h => h) (Or.inl ⟨by rfl, ?_⟩) ?_ ?_
          rotate_left
          ·intro w'
           go_simp
           with_reducible rfl
          rotate_left
          ·simp only [Act.put, List.setIfInBounds_toArray, List.set_cons_zero, List.set_cons_succ, i64_w, i32_w]
           rfl
          refine pure_ (i := 22) (N := (some 105)) (v := ?_) (a' := ?_) kartN21 rfl rfl (any_of HT_.out (by kernel_rfl)) (fun _ _ _ h => h) (Or.inl ⟨by rfl, ?_⟩) ?_ ?_
          rotate_left
          ·intro w'
           go_simp
           with_reducible rfl
          rotate_left
          ·simp only [Act.put, List.setIfInBounds_toArray, List.set_cons_zero, List.set_cons_succ, i64_w, i32_w]
           rfl
          refine take_ (i := 23) (N := (some 106)) (v := ?_) (a' := ?_) kartN20 rfl rfl (take_ofW HT_.out HW_.out (by kernel_rfl)) (fun _ _ _ h => h) (Or.inl ⟨by rfl, ?_⟩) hHeld ?_ ?_
          rotate_left
          ·rintro w' ⟨s0, s1, s2, s3⟩
           go_simp
           with_reducible rfl
          rotate_left
          ·simp only [Act.put, List.setIfInBounds_toArray, List.set_cons_zero, List.set_cons_succ, i64_w, i32_w]
           rfl
          refine pure_ (i := 24) (N := (some 107)) (v := ?_) (a' := ?_) kartN19 rfl rfl (any_of HT_.out (by kernel_rfl)) (fun _ _ _ h => h) (Or.inl ⟨by rfl, ?_⟩) ?_ ?_
          rotate_left
          ·intro w'
           go_simp
           with_reducible rfl
          rotate_left
          ·simp only [Act.put, List.setIfInBounds_toArray, List.set_cons_zero, List.set_cons_succ, i64_w, i32_w]
           rfl
          refine pure_ (i := 25) (N := (some 108)) (v := ?_) (a' := ?_) kartN18 rfl rfl (any_of HT_.out (by kernel_rfl)) (fun _ _ _ h => h) (Or.inl ⟨by rfl, ?_⟩) ?_ ?_
          rotate_left
          ·intro w'
           go_simp
           with_reducible rfl
          rotate_left
          ·simp only [Act.put, List.setIfInBounds_toArray, List.set_cons_zero, List.set_cons_succ, i64_w, i32_w]
           rfl
          refine take_ (i := 26) (N := (some 109)) (v := ?_) (a' := ?_) kartN17 rfl rfl (take_ofW HT_.out HW_.out (by kernel_rfl)) (fun _ _ _ h => h) (Or.inl ⟨by rfl, ?_⟩) hHeld ?_ ?_
          rotate_left
          ·rintro w' ⟨s0, s1, s2, s3⟩
           go_simp
           with_reducible rfl
          rotate_left
          ·simp only [Act.put, List.setIfInBounds_toArray, List.set_cons_zero, List.set_cons_succ, i64_w, i32_w]
           rfl
          refine pure_ (i := 27) (N := (some 110)) (v := ?_) (a' := ?_) kartN16 rfl rfl (any_of HT_.out (by kernel_rfl)) (fun _ _ _ h => h) (Or.inl ⟨by rfl, ?_⟩) ?_ ?_
          rotate_left
          ·intro w'
           go_simp
           with_reducible rfl
          rotate_left
          ·simp only [Act.put, List.setIfInBounds_toArray, List.set_cons_zero, List.set_cons_succ, i64_w, i32_w]
           rfl
          refine pure_ (i := 28) (N := (some 111)) (v := ?_) (a' := ?_) kartN15 rfl rfl (any_of HT_.out (by kernel_rfl)) (fun _ _ _ h => h) (Or.inl ⟨by rfl, ?_⟩) ?_ ?_
          rotate_left
          ·intro w'
           go_simp
           with_reducible rfl
          rotate_left
          ·simp only [Act.put, List.setIfInBounds_toArray, List.set_cons_zero, List.set_cons_succ, i64_w, i32_w]
           rfl
          refine one_ (i := 29) (N := (some 112)) kartN14 rfl rfl (one_of HT_.out (by kernel_rfl)) (by decide) (fun K hK => ?_)
          refine goes_ Try.func43 (by kernel_rfl) rfl #[.int .i64 0, .int .i64 (i : Int)] (by rfl) rfl rfl (by (try simp only [List.map_toArray, List.map_cons, List.map_nil]); first | done | rfl) ?_
          refine (musterlow_mark.calls 0 (i : Int) (mk 0 (i : Int)) w7 rfl).mono ?_
          rintro e w_ ⟨rfl, nd, rfl⟩
          refine ⟨_, rfl, ?_⟩
          replace HP := hd (HP.out.drewN nd)
          replace HB : Hd (∀ w0, Below base w0 w → Below base w0 (w7.drewN nd)) := hd fun w0 hw => pw_below_drewN (HB.out w0 hw) nd
          refine hK.out _ _ hHeld (fun hHeld => ?_)
          clear hK K
          generalize w7.drewN nd = w8 at HP HB hHeld ⊢
          refine norm_ (a' := ?_) ?_ ?_
          rotate_left
          ·show Act.put _ (some 112) _ = _
           simp only [Act.put, List.setIfInBounds_toArray, List.set_cons_zero, List.set_cons_succ, i64_w, i32_w]
           rfl
          refine pure_ (i := 30) (N := (some 113)) (v := ?_) (a' := ?_) kartN13 rfl rfl (any_of HT_.out (by kernel_rfl)) (fun _ _ _ h => h) (Or.inl ⟨by rfl, ?_⟩) ?_ ?_
          rotate_left
          ·intro w'
           go_simp
           try simp only [bne_self_eq_false]
           with_reducible rfl
          rotate_left
          ·simp only [Act.put, List.setIfInBounds_toArray, List.set_cons_zero, List.set_cons_succ, i64_w, i32_w]
           rfl
          refine pure_ (i := 31) (N := (some 114)) (v := ?_) (a' := ?_) kartN12 rfl rfl (any_of HT_.out (by kernel_rfl)) (fun _ _ _ h => h) (Or.inl ⟨by rfl, ?_⟩) ?_ ?_
          rotate_left
          ·intro w'
           go_simp
           with_reducible rfl
          rotate_left
          ·simp only [Act.put, List.setIfInBounds_toArray, List.set_cons_zero, List.set_cons_succ, i64_w, i32_w]
           rfl
          refine pure_ (i := 32) (N := (some 115)) (v := ?_) (a' := ?_) kartN11 rfl rfl (any_of HT_.out (by kernel_rfl)) (fun _ _ _ h => h) (Or.inl ⟨by rfl, ?_⟩) ?_ ?_
          rotate_left
          ·intro w'
           go_simp
           with_reducible rfl
          rotate_left
          ·simp only [Act.put, List.setIfInBounds_toArray, List.set_cons_zero, List.set_cons_succ, i64_w, i32_w]
           rfl
          refine done_ (done_of HT_.out (by kernel_rfl)) ?_
          clear HT_ HW_
          clear hci hci2 hlt
          go_wp2
          go_roundw
          case rel => exact ⟨i + 1, by omega, by go_num, HP, HB⟩
          case measure => simp [intOf]; omega
         ·have hlt : decide ((i : Int) < (n0 : Int)) = false := decide_eq_false (by omega)
          refine start_ (n := 33) (S := fun w' => w'.cell? ⟨w.heap.size, 0, none⟩ = some (.slice (some ⟨b, 0, none⟩) (n0 + 40) cq) ∧ w'.cell? ⟨b, i, none⟩ = some (.int .i64 (mk 0 i)) ∧ w'.cell? ⟨g, 0, none⟩ = some (.slice A0 n0 c0)) (ds := []) kartN44 (by kernel_rfl) rfl rfl ⟨(blk_cell HP.out.hs 0).trans rfl, hci, (blk_cell HP.out.hg 0).trans rfl⟩ (fun hHeld => ?_)
          refine with_tabW apart.tab24 apart.bits24 (fun HT_ HW_ => ?_)
          generalize wr.drew = w6 at HP HB hHeld ⊢
          refine pure_ (i := 0) (N := (some 83)) (v := ?_) (a' := ?_) kartN43 rfl rfl (any_of HT_.out (by kernel_rfl)) (fun _ _ _ h => h) (Or.inl ⟨by rfl, ?_⟩) ?_ ?_
          rotate_left
          ·intro w'
           go_simp
           with_reducible rfl
          rotate_left
          ·simp only [Act.put, List.setIfInBounds_toArray, List.set_cons_zero, List.set_cons_succ, i64_w, i32_w]
           rfl
          refine pure_ (i := 1) (N := (some 84)) (v := ?_) (a' := ?_) kartN42 rfl rfl (any_of HT_.out (by kernel_rfl)) (fun _ _ _ h => h) (Or.inl ⟨by rfl, ?_⟩) ?_ ?_
          rotate_left
          ·intro w'
           go_simp
           with_reducible rfl
          rotate_left
          ·simp only [Act.put, List.setIfInBounds_toArray, List.set_cons_zero, List.set_cons_succ, i64_w, i32_w]
           rfl
          refine pure_ (i := 2) (N := (some 85)) (v := ?_) (a' := ?_) kartN41 rfl rfl (any_of HT_.out (by kernel_rfl)) (fun _ _ _ h => h) (Or.inl ⟨by rfl, ?_⟩) ?_ ?_
          rotate_left
          ·intro w'
           go_simp
           with_reducible rfl
          rotate_left
          ·simp only [Act.put, List.setIfInBounds_toArray, List.set_cons_zero, List.set_cons_succ, i64_w, i32_w]
           rfl
          refine take_ (i := 3) (N := (some 86)) (v := ?_) (a' := ?_) kartN40 rfl rfl (take_ofW HT_.out HW_.out (by kernel_rfl)) (fun _ _ _ h => h) (Or.inl ⟨by rfl, ?_⟩) hHeld ?_ ?_
          rotate_left
          ·rintro w' ⟨s0, s1, s2⟩
           go_simp
           with_reducible rfl
          rotate_left
          ·simp only [Act.put, List.setIfInBounds_toArray, List.set_cons_zero, List.set_cons_succ, i64_w, i32_w]
           rfl
          refine pure_ (i := 4) (N := (some 87)) (v := ?_) (a' := ?_) kartN39 rfl rfl (any_of HT_.out (by kernel_rfl)) (fun _ _ _ h => h) (Or.inl ⟨by rfl, ?_⟩) ?_ ?_
          rotate_left
          ·intro w'
           go_simp
           with_reducible rfl
          rotate_left
          ·simp only [Act.put, List.setIfInBounds_toArray, List.set_cons_zero, List.set_cons_succ, i64_w, i32_w]
           rfl
          refine pure_ (i := 5) (N := (some 88)) (v := ?_) (a' := ?_) kartN38 rfl rfl (any_of HT_.out (by kernel_rfl)) (fun _ _ _ h => h) (Or.inl ⟨by rfl, ?_⟩) ?_ ?_
          rotate_left
          ·intro w'
           go_simp
           with_reducible rfl
          rotate_left
          ·simp only [Act.put, List.setIfInBounds_toArray, List.set_cons_zero, List.set_cons_succ, i64_w, i32_w]
           rfl
          refine take_ (i := 6) (N := (some 89)) (v := ?_) (a' := ?_) kartN37 rfl rfl (take_ofW HT_.out HW_.out (by kernel_rfl)) (fun _ _ _ h => h) (Or.inl ⟨by rfl, ?_⟩) hHeld ?_ ?_
          rotate_left
          ·rintro w' ⟨s0, s1, s2⟩
           go_simp
           with_reducible rfl
          rotate_left
          ·simp only [Act.put, List.setIfInBounds_toArray, List.set_cons_zero, List.set_cons_succ, i64_w, i32_w]
           rfl
          refine pure_ (i := 7) (N := (some 90)) (v := ?_) (a' := ?_) kartN36 rfl rfl (any_of HT_.out (by kernel_rfl)) (fun _ _ _ h => h) (Or.inl ⟨by rfl, ?_⟩) ?_ ?_
          rotate_left
          ·intro w'
           go_simp
           with_reducible rfl
          rotate_left
          ·simp only [Act.put, List.setIfInBounds_toArray, List.set_cons_zero, List.set_cons_succ, i64_w, i32_w]
           rfl
          refine pure_ (i := 8) (N := (some 91)) (v := ?_) (a' := ?_) kartN35 rfl rfl (any_of HT_.out (by kernel_rfl)) (fun _ _ _ h => h) (Or.inl ⟨by rfl, ?_⟩) ?_ ?_
          rotate_left
          ·intro w'
           go_simp
           with_reducible rfl
          rotate_left
          ·simp only [Act.put, List.setIfInBounds_toArray, List.set_cons_zero, List.set_cons_succ, i64_w, i32_w]
           rfl
          refine one_ (i := 9) (N := (some 92)) kartN34 rfl rfl (one_of HT_.out (by kernel_rfl)) (by decide) (fun K hK => ?_)
          refine goes_ Try.func43 (by kernel_rfl) rfl #[.int .i64 0, .int .i64 (i : Int)] (by rfl) rfl rfl (by (try simp only [List.map_toArray, List.map_cons, List.map_nil]); first | done | rfl) ?_
          refine (musterlow_mark.calls 0 (i : Int) (mk 0 (i : Int)) w6 rfl).mono ?_
          rintro e w_ ⟨rfl, nd, rfl⟩
          refine ⟨_, rfl, ?_⟩
          replace HP := hd (HP.out.drewN nd)
          replace HB : Hd (∀ w0, Below base w0 w → Below base w0 (w6.drewN nd)) := hd fun w0 hw => pw_below_drewN (HB.out w0 hw) nd
          refine hK.out _ _ hHeld (fun hHeld => ?_)
          clear hK K
          generalize w6.drewN nd = w7 at HP HB hHeld ⊢
          refine norm_ (a' := ?_) ?_ ?_
          rotate_left
          ·show Act.put _ (some 92) _ = _
           simp only [Act.put, List.setIfInBounds_toArray, List.set_cons_zero, List.set_cons_succ, i64_w, i32_w]
           rfl
          refine pure_ (i := 10) (N := (some 93)) (v := ?_) (a' := ?_) kartN33 rfl rfl (any_of HT_.out (by kernel_rfl)) (fun _ _ _ h => h) (Or.inl ⟨by rfl, ?_⟩) ?_ ?_
          rotate_left
          ·intro w'
           go_simp
           try simp only [bne_self_eq_false]
           with_reducible rfl
          rotate_left
          ·simp only [Act.put, List.setIfInBounds_toArray, List.set_cons_zero, List.set_cons_succ, i64_w, i32_w]
           rfl
          refine pure_ (i := 11) (N := (some 94)) (v := ?_) (a' := ?_) kartN32 rfl rfl (any_of HT_.out (by kernel_rfl)) (fun _ _ _ h => h) (Or.inl ⟨by rfl, ?_⟩) ?_ ?_
          rotate_left
          ·intro w'
           go_simp
           with_reducible rfl
          rotate_left
          ·simp only [Act.put, List.setIfInBounds_toArray, List.set_cons_zero, List.set_cons_succ, i64_w, i32_w]
           rfl
          refine pure_ (i := 12) (N := (some 95)) (v := ?_) (a' := ?_) kartN31 rfl rfl (any_of HT_.out (by kernel_rfl)) (fun _ _ _ h => h) (Or.inl ⟨by rfl, ?_⟩) ?_ ?_
          rotate_left
          ·intro w'
           go_simp
           with_reducible rfl
          rotate_left
          ·simp only [Act.put, List.setIfInBounds_toArray, List.set_cons_zero, List.set_cons_succ, i64_w, i32_w]
           rfl
          refine pure_ (i := 13) (N := (some 96)) (v := ?_) (a' := ?_) kartN30 rfl rfl (any_of HT_.out (by kernel_rfl)) (fun _ _ _ h => h) (Or.inl ⟨by rfl, ?_⟩) ?_ ?_
          rotate_left
          ·intro w'
           go_simp
           with_reducible rfl
          rotate_left
          ·simp only [Act.put, List.setIfInBounds_toArray, List.set_cons_zero, List.set_cons_succ, i64_w, i32_w]
           rfl
          refine pure_ (i := 14) (N := (some 97)) (v := ?_) (a' := ?_) kartN29 rfl rfl (any_of HT_.out (by kernel_rfl)) (fun _ _ _ h => h) (Or.inl ⟨by rfl, ?_⟩) ?_ ?_
          rotate_left
          ·intro w'
           go_simp
           with_reducible rfl
          rotate_left
          ·simp only [Act.put, List.setIfInBounds_toArray, List.set_cons_zero, List.set_cons_succ, i64_w, i32_w]
           rfl
          refine pure_ (i := 15) (N := (some 98)) (v := ?_) (a' := ?_) kartN28 rfl rfl (any_of HT_.out (by kernel_rfl)) (fun _ _ _ h => h) (Or.inl ⟨by rfl, ?_⟩) ?_ ?_
          rotate_left
          ·intro w'
           go_simp
           with_reducible rfl
          rotate_left
          ·simp only [Act.put, List.setIfInBounds_toArray, List.set_cons_zero, List.set_cons_succ, i64_w, i32_w]
           rfl
          refine take_ (i := 16) (N := (some 99)) (v := ?_) (a' := ?_) kartN27 rfl rfl (take_ofW HT_.out HW_.out (by kernel_rfl)) (fun _ _ _ h => h) (Or.inl ⟨by rfl, ?_⟩) hHeld ?_ ?_
          rotate_left
          ·rintro w' ⟨s0, s1, s2⟩
           go_simp
           with_reducible rfl
          rotate_left
          ·simp only [Act.put, List.setIfInBounds_toArray, List.set_cons_zero, List.set_cons_succ, i64_w, i32_w]
           rfl
          refine pure_ (i := 17) (N := (some 100)) (v := ?_) (a' := ?_) kartN26 rfl rfl (any_of HT_.out (by kernel_rfl)) (fun _ _ _ h => h) (Or.inl ⟨by rfl, ?_⟩) ?_ ?_
          rotate_left
          ·intro w'
           go_simp
           with_reducible rfl
          rotate_left
          ·simp only [Act.put, List.setIfInBounds_toArray, List.set_cons_zero, List.set_cons_succ, i64_w, i32_w]
           rfl
          refine pure_ (i := 18) (N := (some 101)) (v := ?_) (a' := ?_) kartN25 rfl rfl (any_of HT_.out (by kernel_rfl)) (fun _ _ _ h => h) (Or.inl ⟨by rfl, ?_⟩) ?_ ?_
          rotate_left
          ·intro w'
           go_simp
           try rw [hlt]
           with_reducible rfl
          rotate_left
          ·simp only [Act.put, List.setIfInBounds_toArray, List.set_cons_zero, List.set_cons_succ, i64_w, i32_w]
           rfl
          refine pure_ (i := 19) (N := (some 102)) (v := ?_) (a' := ?_) kartN24 rfl rfl (any_of HT_.out (by kernel_rfl)) (fun _ _ _ h => h) (Or.inl ⟨by rfl, ?_⟩) ?_ ?_
          rotate_left
          ·intro w'
           go_simp
           with_reducible rfl
          rotate_left
          ·simp only [Act.put, List.setIfInBounds_toArray, List.set_cons_zero, List.set_cons_succ, i64_w, i32_w]
           rfl
          refine pure_ (i := 20) (N := (some 103)) (v := undef) (a' := ?_) kartN23 rfl rfl (any_of HT_.out (by kernel_rfl)) (fun _ _ _ h => h) (Or.inr ⟨by rfl, rfl⟩) ?_ ?_
          rotate_left
          ·simp only [Act.put, List.setIfInBounds_toArray, List.set_cons_zero, List.set_cons_succ, i64_w, i32_w]
           rfl
          refine pure_ (i := 21) (N := (some 104)) (v := undef) (a' := ?_) kartN22 rfl rfl (any_of HT_.out (by kernel_rfl)) (fun _ _ _ h => h) (Or.inr ⟨by rfl, rfl⟩) ?_ ?_
          rotate_left
          ·simp only [Act.put, List.setIfInBounds_toArray, List.set_cons_zero, List.set_cons_succ, i64_w, i32_w]
           rfl
          refine pure_ (i := 22) (N := (some 105)) (v := undef) (a' := ?_) kartN21 rfl rfl (any_of HT_.out (by kernel_rfl)) (fun _ _ _ h => h) (Or.inr ⟨by rfl, rfl⟩) ?_ ?_
          rotate_left
          ·simp only [Act.put, List.setIfInBounds_toArray, List.set_cons_zero, List.set_cons_succ, i64_w, i32_w]
           rfl
          refine pure_ (i := 23) (N := (some 106)) (v := undef) (a' := ?_) kartN20 rfl rfl (any_of HT_.out (by kernel_rfl)) (fun _ _ _ h => h) (Or.inr ⟨by rfl, rfl⟩) ?_ ?_
          rotate_left
          ·simp only [Act.put, List.setIfInBounds_toArray, List.set_cons_zero, List.set_cons_succ, i64_w, i32_w]
           rfl
          refine pure_ (i := 24) (N := (some 107)) (v := undef) (a' := ?_) kartN19 rfl rfl (any_of HT_.out (by kernel_rfl)) (fun _ _ _ h => h) (Or.inr ⟨by rfl, rfl⟩) ?_ ?_
          rotate_left
          ·simp only [Act.put, List.setIfInBounds_toArray, List.set_cons_zero, List.set_cons_succ, i64_w, i32_w]
           rfl
          refine pure_ (i := 25) (N := (some 108)) (v := undef) (a' := ?_) kartN18 rfl rfl (any_of HT_.out (by kernel_rfl)) (fun _ _ _ h => h) (Or.inr ⟨by rfl, rfl⟩) ?_ ?_
          rotate_left
          ·simp only [Act.put, List.setIfInBounds_toArray, List.set_cons_zero, List.set_cons_succ, i64_w, i32_w]
           rfl
          refine pure_ (i := 26) (N := (some 109)) (v := undef) (a' := ?_) kartN17 rfl rfl (any_of HT_.out (by kernel_rfl)) (fun _ _ _ h => h) (Or.inr ⟨by rfl, rfl⟩) ?_ ?_
          rotate_left
          ·simp only [Act.put, List.setIfInBounds_toArray, List.set_cons_zero, List.set_cons_succ, i64_w, i32_w]
           rfl
          refine pure_ (i := 27) (N := (some 110)) (v := undef) (a' := ?_) kartN16 rfl rfl (any_of HT_.out (by kernel_rfl)) (fun _ _ _ h => h) (Or.inr ⟨by rfl, rfl⟩) ?_ ?_
          rotate_left
          ·simp only [Act.put, List.setIfInBounds_toArray, List.set_cons_zero, List.set_cons_succ, i64_w, i32_w]
           rfl
          refine pure_ (i := 28) (N := (some 111)) (v := undef) (a' := ?_) kartN15 rfl rfl (any_of HT_.out (by kernel_rfl)) (fun _ _ _ h => h) (Or.inr ⟨by rfl, rfl⟩) ?_ ?_
          rotate_left
          ·simp only [Act.put, List.setIfInBounds_toArray, List.set_cons_zero, List.set_cons_succ, i64_w, i32_w]
           rfl
          refine pure_ (i := 29) (N := (some 112)) (v := undef) (a' := ?_) kartN14 rfl rfl (any_of HT_.out (by kernel_rfl)) (fun _ _ _ h => h) (Or.inr ⟨by rfl, rfl⟩) ?_ ?_
          rotate_left
          ·simp only [Act.put, List.setIfInBounds_toArray, List.set_cons_zero, List.set_cons_succ, i64_w, i32_w]
           rfl
          refine pure_ (i := 30) (N := (some 113)) (v := undef) (a' := ?_) kartN13 rfl rfl (any_of HT_.out (by kernel_rfl)) (fun _ _ _ h => h) (Or.inr ⟨by rfl, rfl⟩) ?_ ?_
          rotate_left
          ·simp only [Act.put, List.setIfInBounds_toArray, List.set_cons_zero, List.set_cons_succ, i64_w, i32_w]
           rfl
          refine pure_ (i := 31) (N := (some 114)) (v := ?_) (a' := ?_) kartN12 rfl rfl (any_of HT_.out (by kernel_rfl)) (fun _ _ _ h => h) (Or.inl ⟨by rfl, ?_⟩) ?_ ?_
          rotate_left
          ·intro w'
           go_simp
           with_reducible rfl
          rotate_left
          ·simp only [Act.put, List.setIfInBounds_toArray, List.set_cons_zero, List.set_cons_succ, i64_w, i32_w]
           rfl
          refine pure_ (i := 32) (N := (some 115)) (v := ?_) (a' := ?_) kartN11 rfl rfl (any_of HT_.out (by kernel_rfl)) (fun _ _ _ h => h) (Or.inl ⟨by rfl, ?_⟩) ?_ ?_
          rotate_left
          ·intro w'
           go_simp
           with_reducible rfl
          rotate_left
          ·simp only [Act.put, List.setIfInBounds_toArray, List.set_cons_zero, List.set_cons_succ, i64_w, i32_w]
           rfl
          refine done_ (done_of HT_.out (by kernel_rfl)) ?_
          clear HT_ HW_
          clear hci hlt
          go_wp2
          go_roundw
          case rel => exact ⟨i + 1, by omega, by go_num, HP, HB⟩
          case measure => simp [intOf]; omega
        ·have hie : i = n0 + 40 := by omega
         subst hie
         have hnin : ¬ (((n0 + 40 : Nat) : Int) < ((n0 + 40 : Nat) : Int)) := by omega
         go_wp2
         clear s0
         go_roundw
         case rel => exact ⟨1, by go_num, .inr (.inl rfl), HP, HB⟩
         case measure => simp [intOf]
      ·obtain ⟨b, cq, e, _, _⟩ := HP.out.rq1 (by omega)
       cases e
       go_wp2
       go_loopw [10] (fun iv wr => ∃ i : Nat, i ≤ n1 + 40 ∧ iv = .int .i64 (i : Int) ∧ Hd (PhC wr g w.heap.size n0 n1 (.slice A0 n0 c0) (.slice A1 n1 c1) q0 (.slice (some ⟨b, 0, none⟩) (n1 + 40) cq)) ∧ Hd (∀ w0, Below base w0 w → Below base w0 wr)) (fun iv _ => n1 + 40 - (intOf iv).toNat)
       case atStart => exact ⟨0, by omega, rfl, HP, HB⟩
       case round =>
        clear HP HB
        obtain ⟨i, hi, rfl, HP, HB⟩ := hrel
        have s0 : wr.cell? ⟨w.heap.size, 1, none⟩ = some (.slice (some ⟨b, 0, none⟩) (n1 + 40) cq) := (blk_cell HP.out.hs 1).trans rfl
        by_cases hin : i < n1 + 40
        ·have hin' : (i : Int) < ((n1 + 40 : Nat) : Int) := by omega
         obtain ⟨b', c', e, hbl, hcc⟩ := HP.out.rq1 (by omega)
         cases e
         have hci := (hcc i hin).trans (mks_get 1 (n1 + 40) i hin)
         clear hcc hbl
         go_wp2_with fail
         clear s0
         replace HP : Hd (PhC wr.drew _ _ _ _ _ _ _ _) := hd (HP.out.drewN 1)
         replace hci : wr.drew.cell? ⟨b, i, none⟩ = some (.int .i64 (mk 1 i)) := hci
         replace HB : Hd (∀ w0, Below base w0 w → Below base w0 wr.drew) := hd fun w0 hw => below_drew1 (HB.out w0 hw)
         by_cases hn : i < n1
         ·obtain ⟨b2, c2, e, hbl, hcc⟩ := HP.out.r1 (by omega)
          cases e
          have hci2 := (hcc i hn).trans (mks_get 1 n1 i hn)
          clear hcc hbl
          have hlt : decide ((i : Int) < (n1 : Int)) = true := decide_eq_true (by omega)
          refine start_ (n := 33) (S := fun w' => w'.cell? ⟨w.heap.size, 1, none⟩ = some (.slice (some ⟨b, 0, none⟩) (n1 + 40) cq) ∧ w'.cell? ⟨b, i, none⟩ = some (.int .i64 (mk 1 i)) ∧ w'.cell? ⟨g, 1, none⟩ = some (.slice (some ⟨b2, 0, none⟩) n1 c1) ∧ w'.cell? ⟨b2, i, none⟩ = some (.int .i64 (mk 1 i))) (ds := []) kartN44 (by kernel_rfl) rfl rfl ⟨(blk_cell HP.out.hs 1).trans rfl, hci, (blk_cell HP.out.hg 1).trans rfl, hci2⟩ (fun hHeld => ?_)
          refine with_tabW apart.tab24 apart.bits24 (fun HT_ HW_ => ?_)
          generalize wr.drew = w6 at HP HB hHeld ⊢
          refine pure_ (i := 0) (N := (some 83)) (v := ?_) (a' := ?_) kartN43 rfl rfl (any_of HT_.out (by kernel_rfl)) (fun _ _ _ h => h) (Or.inl ⟨by rfl, ?_⟩) ?_ ?_
          rotate_left
          ·intro w'
           go_simp
           with_reducible rfl
          rotate_left
          ·simp only [Act.put, List.setIfInBounds_toArray, List.set_cons_zero, List.set_cons_succ, i64_w, i32_w]
           rfl
          refine pure_ (i := 1) (N := (some 84)) (v := ?_) (a' := ?_) kartN42 rfl rfl (any_of HT_.out (by kernel_rfl)) (fun _ _ _ h => h) (Or.inl ⟨by rfl, ?_⟩) ?_ ?_
          rotate_left
          ·intro w'
           go_simp
           with_reducible rfl
          rotate_left
          ·simp only [Act.put, List.setIfInBounds_toArray, List.set_cons_zero, List.set_cons_succ, i64_w, i32_w]
           rfl
          refine pure_ (i := 2) (N := (some 85)) (v := ?_) (a' := ?_) kartN41 rfl rfl (any_of HT_.out (by kernel_rfl)) (fun _ _ _ h => h) (Or.inl ⟨by rfl, ?_⟩) ?_ ?_
          rotate_left
          ·intro w'
           go_simp
           with_reducible rfl
          rotate_left
          ·simp only [Act.put, List.setIfInBounds_toArray, List.set_cons_zero, List.set_cons_succ, i64_w, i32_w]
           rfl
          refine take_ (i := 3) (N := (some 86)) (v := ?_) (a' := ?_) kartN40 rfl rfl (take_ofW HT_.out HW_.out (by kernel_rfl)) (fun _ _ _ h => h) (Or.inl ⟨by rfl, ?_⟩) hHeld ?_ ?_
          rotate_left
          ·rintro w' ⟨s0, s1, s2, s3⟩
           go_simp
           with_reducible rfl
          rotate_left
          ·simp only [Act.put, List.setIfInBounds_toArray, List.set_cons_zero, List.set_cons_succ, i64_w, i32_w]
           rfl
          refine pure_ (i := 4) (N := (some 87)) (v := ?_) (a' := ?_) kartN39 rfl rfl (any_of HT_.out (by kernel_rfl)) (fun _ _ _ h => h) (Or.inl ⟨by rfl, ?_⟩) ?_ ?_
          rotate_left
          ·intro w'
           go_simp
           with_reducible rfl
          rotate_left
          ·simp only [Act.put, List.setIfInBounds_toArray, List.set_cons_zero, List.set_cons_succ, i64_w, i32_w]
           rfl
          refine pure_ (i := 5) (N := (some 88)) (v := ?_) (a' := ?_) kartN38 rfl rfl (any_of HT_.out (by kernel_rfl)) (fun _ _ _ h => h) (Or.inl ⟨by rfl, ?_⟩) ?_ ?_
          rotate_left
          ·intro w'
           go_simp
           with_reducible rfl
          rotate_left
          ·simp only [Act.put, List.setIfInBounds_toArray, List.set_cons_zero, List.set_cons_succ, i64_w, i32_w]
           rfl
          refine take_ (i := 6) (N := (some 89)) (v := ?_) (a' := ?_) kartN37 rfl rfl (take_ofW HT_.out HW_.out (by kernel_rfl)) (fun _ _ _ h => h) (Or.inl ⟨by rfl, ?_⟩) hHeld ?_ ?_
          rotate_left
          ·rintro w' ⟨s0, s1, s2, s3⟩
           go_simp
           with_reducible rfl
          rotate_left
          ·simp only [Act.put, List.setIfInBounds_toArray, List.set_cons_zero, List.set_cons_succ, i64_w, i32_w]
           rfl
          refine pure_ (i := 7) (N := (some 90)) (v := ?_) (a' := ?_) kartN36 rfl rfl (any_of HT_.out (by kernel_rfl)) (fun _ _ _ h => h) (Or.inl ⟨by rfl, ?_⟩) ?_ ?_
          rotate_left
          ·intro w'
           go_simp
           with_reducible rfl
          rotate_left
          ·simp only [Act.put, List.setIfInBounds_toArray, List.set_cons_zero, List.set_cons_succ, i64_w, i32_w]
           rfl
          refine pure_ (i := 8) (N := (some 91)) (v := ?_) (a' := ?_) kartN35 rfl rfl (any_of HT_.out (by kernel_rfl)) (fun _ _ _ h => h) (Or.inl ⟨by rfl, ?_⟩) ?_ ?_
          rotate_left
          ·intro w'
           go_simp
           with_reducible rfl
          rotate_left
          ·simp only [Act.put, List.setIfInBounds_toArray, List.set_cons_zero, List.set_cons_succ, i64_w, i32_w]
           rfl
          refine one_ (i := 9) (N := (some 92)) kartN34 rfl rfl (one_of HT_.out (by kernel_rfl)) (by decide) (fun K hK => ?_)
          refine goes_ Try.func43 (by kernel_rfl) rfl #[.int .i64 1, .int .i64 (i : Int)] (by rfl) rfl rfl (by (try simp only [List.map_toArray, List.map_cons, List.map_nil]); first | done | rfl) ?_
          refine (musterlow_mark.calls 1 (i : Int) (mk 1 (i : Int)) w6 rfl).mono ?_
          rintro e w_ ⟨rfl, nd, rfl⟩
          refine ⟨_, rfl, ?_⟩
          replace HP := hd (HP.out.drewN nd)
          replace HB : Hd (∀ w0, Below base w0 w → Below base w0 (w6.drewN nd)) := hd fun w0 hw => pw_below_drewN (HB.out w0 hw) nd
          refine hK.out _ _ hHeld (fun hHeld => ?_)
          clear hK K
          generalize w6.drewN nd = w7 at HP HB hHeld ⊢
          refine norm_ (a' := ?_) ?_ ?_
          rotate_left
          ·show Act.put _ (some 92) _ = _
           simp only [Act.put, List.setIfInBounds_toArray, List.set_cons_zero, List.set_cons_succ, i64_w, i32_w]
           rfl
          refine pure_ (i := 10) (N := (some 93)) (v := ?_) (a' := ?_) kartN33 rfl rfl (any_of HT_.out (by kernel_rfl)) (fun _ _ _ h => h) (Or.inl ⟨by rfl, ?_⟩) ?_ ?_
          rotate_left
          ·intro w'
           go_simp
           try simp only [bne_self_eq_false]
           with_reducible rfl
          rotate_left
          ·simp only [Act.put, List.setIfInBounds_toArray, List.set_cons_zero, List.set_cons_succ, i64_w, i32_w]
           rfl
          refine pure_ (i := 11) (N := (some 94)) (v := ?_) (a' := ?_) kartN32 rfl rfl (any_of HT_.out (by kernel_rfl)) (fun _ _ _ h => h) (Or.inl ⟨by rfl, ?_⟩) ?_ ?_
          rotate_left
          ·intro w'
           go_simp
           with_reducible rfl
          rotate_left
          ·simp only [Act.put, List.setIfInBounds_toArray, List.set_cons_zero, List.set_cons_succ, i64_w, i32_w]
           rfl
          refine pure_ (i := 12) (N := (some 95)) (v := ?_) (a' := ?_) kartN31 rfl rfl (any_of HT_.out (by kernel_rfl)) (fun _ _ _ h => h) (Or.inl ⟨by rfl, ?_⟩) ?_ ?_
          rotate_left
          ·intro w'
           go_simp
           with_reducible rfl
          rotate_left
          ·simp only [Act.put, List.setIfInBounds_toArray, List.set_cons_zero, List.set_cons_succ, i64_w, i32_w]
           rfl
          refine pure_ (i := 13) (N := (some 96)) (v := ?_) (a' := ?_) kartN30 rfl rfl (any_of HT_.out (by kernel_rfl)) (fun _ _ _ h => h) (Or.inl ⟨by rfl, ?_⟩) ?_ ?_
          rotate_left
          ·intro w'
           go_simp
           with_reducible rfl
          rotate_left
          ·simp only [Act.put, List.setIfInBounds_toArray, List.set_cons_zero, List.set_cons_succ, i64_w, i32_w]
           rfl
          refine pure_ (i := 14) (N := (some 97)) (v := ?_) (a' := ?_) kartN29 rfl rfl (any_of HT_.out (by kernel_rfl)) (fun _ _ _ h => h) (Or.inl ⟨by rfl, ?_⟩) ?_ ?_
          rotate_left
          ·intro w'
           go_simp
           with_reducible rfl
          rotate_left
          ·simp only [Act.put, List.setIfInBounds_toArray, List.set_cons_zero, List.set_cons_succ, i64_w, i32_w]
           rfl
          refine pure_ (i := 15) (N := (some 98)) (v := ?_) (a' := ?_) kartN28 rfl rfl (any_of HT_.out (by kernel_rfl)) (fun _ _ _ h => h) (Or.inl ⟨by rfl, ?_⟩) ?_ ?_
          rotate_left
          ·intro w'
           go_simp
           with_reducible rfl
          rotate_left
          ·simp only [Act.put, List.setIfInBounds_toArray, List.set_cons_zero, List.set_cons_succ, i64_w, i32_w]
           rfl
          refine take_ (i := 16) (N := (some 99)) (v := ?_) (a' := ?_) kartN27 rfl rfl (take_ofW HT_.out HW_.out (by kernel_rfl)) (fun _ _ _ h => h) (Or.inl ⟨by rfl, ?_⟩) hHeld ?_ ?_
          rotate_left
          ·rintro w' ⟨s0, s1, s2, s3⟩
           go_simp
           with_reducible rfl
          rotate_left
          ·simp only [Act.put, List.setIfInBounds_toArray, List.set_cons_zero, List.set_cons_succ, i64_w, i32_w]
           rfl
          refine pure_ (i := 17) (N := (some 100)) (v := ?_) (a' := ?_) kartN26 rfl rfl (any_of HT_.out (by kernel_rfl)) (fun _ _ _ h => h) (Or.inl ⟨by rfl, ?_⟩) ?_ ?_
          rotate_left
          ·intro w'
           go_simp
           with_reducible rfl
          rotate_left
          ·simp only [Act.put, List.setIfInBounds_toArray, List.set_cons_zero, List.set_cons_succ, i64_w, i32_w]
           rfl
          refine pure_ (i := 18) (N := (some 101)) (v := ?_) (a' := ?_) kartN25 rfl rfl (any_of HT_.out (by kernel_rfl)) (fun _ _ _ h => h) (Or.inl ⟨by rfl, ?_⟩) ?_ ?_
          rotate_left
          ·intro w'
           go_simp
           try rw [hlt]
           with_reducible rfl
          rotate_left
          ·simp only [Act.put, List.setIfInBounds_toArray, List.set_cons_zero, List.set_cons_succ, i64_w, i32_w]
           rfl
          refine pure_ (i := 19) (N := (some 102)) (v := ?_) (a' := ?_) kartN24 rfl rfl (any_of HT_.out (by kernel_rfl)) (fun _ _ _ h => h) (Or.inl ⟨by rfl, ?_⟩) ?_ ?_
          rotate_left
          ·intro w'
           go_simp
           with_reducible rfl
          rotate_left
          ·simp only [Act.put, List.setIfInBounds_toArray, List.set_cons_zero, List.set_cons_succ, i64_w, i32_w]
           rfl
          refine pure_ (i := 20) (N := (some 103)) (v := ?_) (a' := ?_) kartN23 rfl rfl (any_of HT_.out (by kernel_rfl)) (fun _ _ _ h => h) (Or.inl ⟨by rfl, ?_⟩) ?_ ?_
          rotate_left
          ·intro w'
           go_simp
           with_reducible rfl
          rotate_left
          ·simp only [Act.put, List.setIfInBounds_toArray, List.set_cons_zero, List.set_cons_succ, i64_w, i32_w]
           rfl
          refine pure_ (i := 21) (N := (some 104)) (v := ?_) (a' := ?_) kartN22 rfl rfl (any_of HT_.out (by kernel_rfl)) (fun _ _ _ h => h) (Or.inl ⟨by rfl, ?_⟩) ?_ ?_
          rotate_left
          ·intro w'
           go_simp
           with_reducible rfl
          rotate_left
          ·simp only [Act.put, List.setIfInBounds_toArray, List.set_cons_zero, List.set_cons_succ, i64_w, i32_w]
           rfl
          refine pure_ (i := 22) (N := (some 105)) (v := ?_) (a' := ?_) kartN21 rfl rfl (any_of HT_.out (by kernel_rfl)) (fun _ _ _ h => h) (Or.inl ⟨by rfl, ?_⟩) ?_ ?_
          rotate_left
          ·intro w'
           go_simp
           with_reducible rfl
          rotate_left
          ·simp only [Act.put, List.setIfInBounds_toArray, List.set_cons_zero, List.set_cons_succ, i64_w, i32_w]
           rfl
          refine take_ (i := 23) (N := (some 106)) (v := ?_) (a' := ?_) kartN20 rfl rfl (take_ofW HT_.out HW_.out (by kernel_rfl)) (fun _ _ _ h => h) (Or.inl ⟨by rfl, ?_⟩) hHeld ?_ ?_
          rotate_left
          ·rintro w' ⟨s0, s1, s2, s3⟩
           go_simp
           with_reducible rfl
          rotate_left
          ·simp only [Act.put, List.setIfInBounds_toArray, List.set_cons_zero, List.set_cons_succ, i64_w, i32_w]
           rfl
          refine pure_ (i := 24) (N := (some 107)) (v := ?_) (a' := ?_) kartN19 rfl rfl (any_of HT_.out (by kernel_rfl)) (fun _ _ _ h => h) (Or.inl ⟨by rfl, ?_⟩) ?_ ?_
          rotate_left
          ·intro w'
           go_simp
           with_reducible rfl
          rotate_left
          ·simp only [Act.put, List.setIfInBounds_toArray, List.set_cons_zero, List.set_cons_succ, i64_w, i32_w]
           rfl
          refine pure_ (i := 25) (N := (some 108)) (v := ?_) (a' := ?_) kartN18 rfl rfl (any_of HT_.out (by kernel_rfl)) (fun _ _ _ h => h) (Or.inl ⟨by rfl, ?_⟩) ?_ ?_
          rotate_left
          ·intro w'
           go_simp
           with_reducible rfl
          rotate_left
          ·simp only [Act.put, List.setIfInBounds_toArray, List.set_cons_zero, List.set_cons_succ, i64_w, i32_w]
           rfl
          refine take_ (i := 26) (N := (some 109)) (v := ?_) (a' := ?_) kartN17 rfl rfl (take_ofW HT_.out HW_.out (by kernel_rfl)) (fun _ _ _ h => h) (Or.inl ⟨by rfl, ?_⟩) hHeld ?_ ?_
          rotate_left
          ·rintro w' ⟨s0, s1, s2, s3⟩
           go_simp
           with_reducible rfl
          rotate_left
          ·simp only [Act.put, List.setIfInBounds_toArray, List.set_cons_zero, List.set_cons_succ, i64_w, i32_w]
           rfl
          refine pure_ (i := 27) (N := (some 110)) (v := ?_) (a' := ?_) kartN16 rfl rfl (any_of HT_.out (by kernel_rfl)) (fun _ _ _ h => h) (Or.inl ⟨by rfl, ?_⟩) ?_ ?_
          rotate_left
          ·intro w'
           go_simp
           with_reducible rfl
          rotate_left
          ·simp only [Act.put, List.setIfInBounds_toArray, List.set_cons_zero, List.set_cons_succ, i64_w, i32_w]
           rfl
          refine pure_ (i := 28) (N := (some 111)) (v := ?_) (a' := ?_) kartN15 rfl rfl (any_of HT_.out (by kernel_rfl)) (fun _ _ _ h => h) (Or.inl ⟨by rfl, ?_⟩) ?_ ?_
          rotate_left
          ·intro w'
           go_simp
           with_reducible rfl
          rotate_left
          ·simp only [Act.put, List.setIfInBounds_toArray, List.set_cons_zero, List.set_cons_succ, i64_w, i32_w]
           rfl
          refine one_ (i := 29) (N := (some 112)) kartN14 rfl rfl (one_of HT_.out (by kernel_rfl)) (by decide) (fun K hK => ?_)
          refine goes_ Try.func43 (by kernel_rfl) rfl #[.int .i64 1, .int .i64 (i : Int)] (by rfl) rfl rfl (by (try simp only [List.map_toArray, List.map_cons, List.map_nil]); first | done | rfl) ?_
          refine (musterlow_mark.calls 1 (i : Int) (mk 1 (i : Int)) w7 rfl).mono ?_
          rintro e w_ ⟨rfl, nd, rfl⟩
          refine ⟨_, rfl, ?_⟩
          replace HP := hd (HP.out.drewN nd)
          replace HB : Hd (∀ w0, Below base w0 w → Below base w0 (w7.drewN nd)) := hd fun w0 hw => pw_below_drewN (HB.out w0 hw) nd
          refine hK.out _ _ hHeld (fun hHeld => ?_)
          clear hK K
          generalize w7.drewN nd = w8 at HP HB hHeld ⊢
          refine norm_ (a' := ?_) ?_ ?_
          rotate_left
          ·show Act.put _ (some 112) _ = _
           simp only [Act.put, List.setIfInBounds_toArray, List.set_cons_zero, List.set_cons_succ, i64_w, i32_w]
           rfl
          refine pure_ (i := 30) (N := (some 113)) (v := ?_) (a' := ?_) kartN13 rfl rfl (any_of HT_.out (by kernel_rfl)) (fun _ _ _ h => h) (Or.inl ⟨by rfl, ?_⟩) ?_ ?_
          rotate_left
          ·intro w'
           go_simp
           try simp only [bne_self_eq_false]
           with_reducible rfl
          rotate_left
          ·simp only [Act.put, List.setIfInBounds_toArray, List.set_cons_zero, List.set_cons_succ, i64_w, i32_w]
           rfl
          refine pure_ (i := 31) (N := (some 114)) (v := ?_) (a' := ?_) kartN12 rfl rfl (any_of HT_.out (by kernel_rfl)) (fun _ _ _ h => h) (Or.inl ⟨by rfl, ?_⟩) ?_ ?_
          rotate_left
          ·intro w'
           go_simp
           with_reducible rfl
          rotate_left
          ·simp only [Act.put, List.setIfInBounds_toArray, List.set_cons_zero, List.set_cons_succ, i64_w, i32_w]
           rfl
          refine pure_ (i := 32) (N := (some 115)) (v := ?_) (a' := ?_) kartN11 rfl rfl (any_of HT_.out (by kernel_rfl)) (fun _ _ _ h => h) (Or.inl ⟨by rfl, ?_⟩) ?_ ?_
          rotate_left
          ·intro w'
           go_simp
           with_reducible rfl
          rotate_left
          ·simp only [Act.put, List.setIfInBounds_toArray, List.set_cons_zero, List.set_cons_succ, i64_w, i32_w]
           rfl
          refine done_ (done_of HT_.out (by kernel_rfl)) ?_
          clear HT_ HW_
          clear hci hci2 hlt
          go_wp2
          go_roundw
          case rel => exact ⟨i + 1, by omega, by go_num, HP, HB⟩
          case measure => simp [intOf]; omega
         ·have hlt : decide ((i : Int) < (n1 : Int)) = false := decide_eq_false (by omega)
          refine start_ (n := 33) (S := fun w' => w'.cell? ⟨w.heap.size, 1, none⟩ = some (.slice (some ⟨b, 0, none⟩) (n1 + 40) cq) ∧ w'.cell? ⟨b, i, none⟩ = some (.int .i64 (mk 1 i)) ∧ w'.cell? ⟨g, 1, none⟩ = some (.slice A1 n1 c1)) (ds := []) kartN44 (by kernel_rfl) rfl rfl ⟨(blk_cell HP.out.hs 1).trans rfl, hci, (blk_cell HP.out.hg 1).trans rfl⟩ (fun hHeld => ?_)
          refine with_tabW apart.tab24 apart.bits24 (fun HT_ HW_ => ?_)
          generalize wr.drew = w6 at HP HB hHeld ⊢
          refine pure_ (i := 0) (N := (some 83)) (v := ?_) (a' := ?_) kartN43 rfl rfl (any_of HT_.out (by kernel_rfl)) (fun _ _ _ h => h) (Or.inl ⟨by rfl, ?_⟩) ?_ ?_
          rotate_left
          ·intro w'
           go_simp
           with_reducible rfl
          rotate_left
          ·simp only [Act.put, List.setIfInBounds_toArray, List.set_cons_zero, List.set_cons_succ, i64_w, i32_w]
           rfl
          refine pure_ (i := 1) (N := (some 84)) (v := ?_) (a' := ?_) kartN42 rfl rfl (any_of HT_.out (by kernel_rfl)) (fun _ _ _ h => h) (Or.inl ⟨by rfl, ?_⟩) ?_ ?_
          rotate_left
          ·intro w'
           go_simp
           with_reducible rfl
          rotate_left
          ·simp only [Act.put, List.setIfInBounds_toArray, List.set_cons_zero, List.set_cons_succ, i64_w, i32_w]
           rfl
          refine pure_ (i := 2) (N := (some 85)) (v := ?_) (a' := ?_) kartN41 rfl rfl (any_of HT_.out (by kernel_rfl)) (fun _ _ _ h => h) (Or.inl ⟨by rfl, ?_⟩) ?_ ?_
          rotate_left
          ·intro w'
           go_simp
           with_reducible rfl
          rotate_left
          ·simp only [Act.put, List.setIfInBounds_toArray, List.set_cons_zero, List.set_cons_succ, i64_w, i32_w]
           rfl
          refine take_ (i := 3) (N := (some 86)) (v := ?_) (a' := ?_) kartN40 rfl rfl (take_ofW HT_.out HW_.out (by kernel_rfl)) (fun _ _ _ h => h) (Or.inl ⟨by rfl, ?_⟩) hHeld ?_ ?_
          rotate_left
          ·rintro w' ⟨s0, s1, s2⟩
           go_simp
           with_reducible rfl
          rotate_left
          ·simp only [Act.put, List.setIfInBounds_toArray, List.set_cons_zero, List.set_cons_succ, i64_w, i32_w]
           rfl
          refine pure_ (i := 4) (N := (some 87)) (v := ?_) (a' := ?_) kartN39 rfl rfl (any_of HT_.out (by kernel_rfl)) (fun _ _ _ h => h) (Or.inl ⟨by rfl, ?_⟩) ?_ ?_
          rotate_left
          ·intro w'
           go_simp
           with_reducible rfl
          rotate_left
          ·simp only [Act.put, List.setIfInBounds_toArray, List.set_cons_zero, List.set_cons_succ, i64_w, i32_w]
           rfl
          refine pure_ (i := 5) (N := (some 88)) (v := ?_) (a' := ?_) kartN38 rfl rfl (any_of HT_.out (by kernel_rfl)) (fun _ _ _ h => h) (Or.inl ⟨by rfl, ?_⟩) ?_ ?_
          rotate_left
          ·intro w'
           go_simp
           with_reducible rfl
          rotate_left
          ·simp only [Act.put, List.setIfInBounds_toArray, List.set_cons_zero, List.set_cons_succ, i64_w, i32_w]
           rfl
          refine take_ (i := 6) (N := (some 89)) (v := ?_) (a' := ?_) kartN37 rfl rfl (take_ofW HT_.out HW_.out (by kernel_rfl)) (fun _ _ _ h => h) (Or.inl ⟨by rfl, ?_⟩) hHeld ?_ ?_
          rotate_left
          ·rintro w' ⟨s0, s1, s2⟩
           go_simp
           with_reducible rfl
          rotate_left
          ·simp only [Act.put, List.setIfInBounds_toArray, List.set_cons_zero, List.set_cons_succ, i64_w, i32_w]
           rfl
          refine pure_ (i := 7) (N := (some 90)) (v := ?_) (a' := ?_) kartN36 rfl rfl (any_of HT_.out (by kernel_rfl)) (fun _ _ _ h => h) (Or.inl ⟨by rfl, ?_⟩) ?_ ?_
          rotate_left
          ·intro w'
           go_simp
           with_reducible rfl
          rotate_left
          ·simp only [Act.put, List.setIfInBounds_toArray, List.set_cons_zero, List.set_cons_succ, i64_w, i32_w]
           rfl
          refine pure_ (i := 8) (N := (some 91)) (v := ?_) (a' := ?_) kartN35 rfl rfl (any_of HT_.out (by kernel_rfl)) (fun _ _ _ h => h) (Or.inl ⟨by rfl, ?_⟩) ?_ ?_
          rotate_left
          ·intro w'
           go_simp
           with_reducible rfl
          rotate_left
          ·simp only [Act.put, List.setIfInBounds_toArray, List.set_cons_zero, List.set_cons_succ, i64_w, i32_w]
           rfl
          refine one_ (i := 9) (N := (some 92)) kartN34 rfl rfl (one_of HT_.out (by kernel_rfl)) (by decide) (fun K hK => ?_)
          refine goes_ Try.func43 (by kernel_rfl) rfl #[.int .i64 1, .int .i64 (i : Int)] (by rfl) rfl rfl (by (try simp only [List.map_toArray, List.map_cons, List.map_nil]); first | done | rfl) ?_
          refine (musterlow_mark.calls 1 (i : Int) (mk 1 (i : Int)) w6 rfl).mono ?_
          rintro e w_ ⟨rfl, nd, rfl⟩
          refine ⟨_, rfl, ?_⟩
          replace HP := hd (HP.out.drewN nd)
          replace HB : Hd (∀ w0, Below base w0 w → Below base w0 (w6.drewN nd)) := hd fun w0 hw => pw_below_drewN (HB.out w0 hw) nd
          refine hK.out _ _ hHeld (fun hHeld => ?_)
          clear hK K
          generalize w6.drewN nd = w7 at HP HB hHeld ⊢
          refine norm_ (a' := ?_) ?_ ?_
          rotate_left
          ·show Act.put _ (some 92) _ = _
           simp only [Act.put, List.setIfInBounds_toArray, List.set_cons_zero, List.set_cons_succ, i64_w, i32_w]
           rfl
          refine pure_ (i := 10) (N := (some 93)) (v := ?_) (a' := ?_) kartN33 rfl rfl (any_of HT_.out (by kernel_rfl)) (fun _ _ _ h => h) (Or.inl ⟨by rfl, ?_⟩) ?_ ?_
          rotate_left
          ·intro w'
           go_simp
           try simp only [bne_self_eq_false]
           with_reducible rfl
          rotate_left
          ·simp only [Act.put, List.setIfInBounds_toArray, List.set_cons_zero, List.set_cons_succ, i64_w, i32_w]
           rfl
          refine pure_ (i := 11) (N := (some 94)) (v := ?_) (a' := ?_) kartN32 rfl rfl (any_of HT_.out (by kernel_rfl)) (fun _ _ _ h => h) (Or.inl ⟨by rfl, ?_⟩) ?_ ?_
          rotate_left
          ·intro w'
           go_simp
           with_reducible rfl
          rotate_left
          ·simp only [Act.put, List.setIfInBounds_toArray, List.set_cons_zero, List.set_cons_succ, i64_w, i32_w]
           rfl
          refine pure_ (i := 12) (N := (some 95)) (v := ?_) (a' := ?_) kartN31 rfl rfl (any_of HT_.out (by kernel_rfl)) (fun _ _ _ h => h) (Or.inl ⟨by rfl, ?_⟩) ?_ ?_
          rotate_left
          ·intro w'
           go_simp
           with_reducible rfl
          rotate_left
          ·simp only [Act.put, List.setIfInBounds_toArray, List.set_cons_zero, List.set_cons_succ, i64_w, i32_w]
           rfl
          refine pure_ (i := 13) (N := (some 96)) (v := ?_) (a' := ?_) kartN30 rfl rfl (any_of HT_.out (by kernel_rfl)) (fun _ _ _ h => h) (Or.inl ⟨by rfl, ?_⟩) ?_ ?_
          rotate_left
          ·intro w'
           go_simp
           with_reducible rfl
          rotate_left
          ·simp only [Act.put, List.setIfInBounds_toArray, List.set_cons_zero, List.set_cons_succ, i64_w, i32_w]
           rfl
          refine pure_ (i := 14) (N := (some 97)) (v := ?_) (a' := ?_) kartN29 rfl rfl (any_of HT_.out (by kernel_rfl)) (fun _ _ _ h => h) (Or.inl ⟨by rfl, ?_⟩) ?_ ?_
          rotate_left
          ·intro w'
           go_simp
           with_reducible rfl
          rotate_left
          ·simp only [Act.put, List.setIfInBounds_toArray, List.set_cons_zero, List.set_cons_succ, i64_w, i32_w]
           rfl
          refine pure_ (i := 15) (N := (some 98)) (v := ?_) (a' := ?_) kartN28 rfl rfl (any_of HT_.out (by kernel_rfl)) (fun _ _ _ h => h) (Or.inl ⟨by rfl, ?_⟩) ?_ ?_
          rotate_left
          ·intro w'
           go_simp
           with_reducible rfl
          rotate_left
          ·simp only [Act.put, List.setIfInBounds_toArray, List.set_cons_zero, List.set_cons_succ, i64_w, i32_w]
           rfl
          refine take_ (i := 16) (N := (some 99)) (v := ?_) (a' := ?_) kartN27 rfl rfl (take_ofW HT_.out HW_.out (by kernel_rfl)) (fun _ _ _ h => h) (Or.inl ⟨by rfl, ?_⟩) hHeld ?_ ?_
          rotate_left
          ·rintro w' ⟨s0, s1, s2⟩
           go_simp
           with_reducible rfl
          rotate_left
          ·simp only [Act.put, List.setIfInBounds_toArray, List.set_cons_zero, List.set_cons_succ, i64_w, i32_w]
           rfl
          refine pure_ (i := 17) (N := (some 100)) (v := ?_) (a' := ?_) kartN26 rfl rfl (any_of HT_.out (by kernel_rfl)) (fun _ _ _ h => h) (Or.inl ⟨by rfl, ?_⟩) ?_ ?_
          rotate_left
          ·intro w'
           go_simp
           with_reducible rfl
          rotate_left
          ·simp only [Act.put, List.setIfInBounds_toArray, List.set_cons_zero, List.set_cons_succ, i64_w, i32_w]
           rfl
          refine pure_ (i := 18) (N := (some 101)) (v := ?_) (a' := ?_) kartN25 rfl rfl (any_of HT_.out (by kernel_rfl)) (fun _ _ _ h => h) (Or.inl ⟨by rfl, ?_⟩) ?_ ?_
          rotate_left
          ·intro w'
           go_simp
           try rw [hlt]
           with_reducible rfl
          rotate_left
          ·simp only [Act.put, List.setIfInBounds_toArray, List.set_cons_zero, List.set_cons_succ, i64_w, i32_w]
           rfl
          refine pure_ (i := 19) (N := (some 102)) (v := ?_) (a' := ?_) kartN24 rfl rfl (any_of HT_.out (by kernel_rfl)) (fun _ _ _ h => h) (Or.inl ⟨by rfl, ?_⟩) ?_ ?_
          rotate_left
          ·intro w'
           go_simp
           with_reducible rfl
          rotate_left
          ·simp only [Act.put, List.setIfInBounds_toArray, List.set_cons_zero, List.set_cons_succ, i64_w, i32_w]
           rfl
          refine pure_ (i := 20) (N := (some 103)) (v := undef) (a' := ?_) kartN23 rfl rfl (any_of HT_.out (by kernel_rfl)) (fun _ _ _ h => h) (Or.inr ⟨by rfl, rfl⟩) ?_ ?_
          rotate_left
          ·simp only [Act.put, List.setIfInBounds_toArray, List.set_cons_zero, List.set_cons_succ, i64_w, i32_w]
           rfl
          refine pure_ (i := 21) (N := (some 104)) (v := undef) (a' := ?_) kartN22 rfl rfl (any_of HT_.out (by kernel_rfl)) (fun _ _ _ h => h) (Or.inr ⟨by rfl, rfl⟩) ?_ ?_
          rotate_left
          ·simp only [Act.put, List.setIfInBounds_toArray, List.set_cons_zero, List.set_cons_succ, i64_w, i32_w]
           rfl
          refine pure_ (i := 22) (N := (some 105)) (v := undef) (a' := ?_) kartN21 rfl rfl (any_of HT_.out (by kernel_rfl)) (fun _ _ _ h => h) (Or.inr ⟨by rfl, rfl⟩) ?_ ?_
          rotate_left
          ·simp only [Act.put, List.setIfInBounds_toArray, List.set_cons_zero, List.set_cons_succ, i64_w, i32_w]
           rfl
          refine pure_ (i := 23) (N := (some 106)) (v := undef) (a' := ?_) kartN20 rfl rfl (any_of HT_.out (by kernel_rfl)) (fun _ _ _ h => h) (Or.inr ⟨by rfl, rfl⟩) ?_ ?_
          rotate_left
          ·simp only [Act.put, List.setIfInBounds_toArray, List.set_cons_zero, List.set_cons_succ, i64_w, i32_w]
           rfl
          refine pure_ (i := 24) (N := (some 107)) (v := undef) (a' := ?_) kartN19 rfl rfl (any_of HT_.out (by kernel_rfl)) (fun _ _ _ h => h) (Or.inr ⟨by rfl, rfl⟩) ?_ ?_
          rotate_left
          ·simp only [Act.put, List.setIfInBounds_toArray, List.set_cons_zero, List.set_cons_succ, i64_w, i32_w]
           rfl
          refine pure_ (i := 25) (N := (some 108)) (v := undef) (a' := ?_) kartN18 rfl rfl (any_of HT_.out (by kernel_rfl)) (fun _ _ _ h => h) (Or.inr ⟨by rfl, rfl⟩) ?_ ?_
          rotate_left
          ·simp only [Act.put, List.setIfInBounds_toArray, List.set_cons_zero, List.set_cons_succ, i64_w, i32_w]
           rfl
          refine pure_ (i := 26) (N := (some 109)) (v := undef) (a' := ?_) kartN17 rfl rfl (any_of HT_.out (by kernel_rfl)) (fun _ _ _ h => h) (Or.inr ⟨by rfl, rfl⟩) ?_ ?_
          rotate_left
          ·simp only [Act.put, List.setIfInBounds_toArray, List.set_cons_zero, List.set_cons_succ, i64_w, i32_w]
           rfl
          refine pure_ (i := 27) (N := (some 110)) (v := undef) (a' := ?_) kartN16 rfl rfl (any_of HT_.out (by kernel_rfl)) (fun _ _ _ h => h) (Or.inr ⟨by rfl, rfl⟩) ?_ ?_
          rotate_left
          ·simp only [Act.put, List.setIfInBounds_toArray, List.set_cons_zero, List.set_cons_succ, i64_w, i32_w]
           rfl
          refine pure_ (i := 28) (N := (some 111)) (v := undef) (a' := ?_) kartN15 rfl rfl (any_of HT_.out (by kernel_rfl)) (fun _ _ _ h => h) (Or.inr ⟨by rfl, rfl⟩) ?_ ?_
          rotate_left
          ·simp only [Act.put, List.setIfInBounds_toArray, List.set_cons_zero, List.set_cons_succ, i64_w, i32_w]
           rfl
          refine pure_ (i := 29) (N := (some 112)) (v := undef) (a' := ?_) kartN14 rfl rfl (any_of HT_.out (by kernel_rfl)) (fun _ _ _ h => h) (Or.inr ⟨by rfl, rfl⟩) ?_ ?_
          rotate_left
          ·simp only [Act.put, List.setIfInBounds_toArray, List.set_cons_zero, List.set_cons_succ, i64_w, i32_w]
           rfl
          refine pure_ (i := 30) (N := (some 113)) (v := undef) (a' := ?_) kartN13 rfl rfl (any_of HT_.out (by kernel_rfl)) (fun _ _ _ h => h) (Or.inr ⟨by rfl, rfl⟩) ?_ ?_
          rotate_left
          ·simp only [Act.put, List.setIfInBounds_toArray, List.set_cons_zero, List.set_cons_succ, i64_w, i32_w]
           rfl
          refine pure_ (i := 31) (N := (some 114)) (v := ?_) (a' := ?_) kartN12 rfl rfl (any_of HT_.out (by kernel_rfl)) (fun _ _ _ h => h) (Or.inl ⟨by rfl, ?_⟩) ?_ ?_
          rotate_left
          ·intro w'
           go_simp
           with_reducible rfl
          rotate_left
          ·simp only [Act.put, List.setIfInBounds_toArray, List.set_cons_zero, List.set_cons_succ, i64_w, i32_w]
           rfl
          refine pure_ (i := 32) (N := (some 115)) (v := ?_) (a' := ?_) kartN11 rfl rfl (any_of HT_.out (by kernel_rfl)) (fun _ _ _ h => h) (Or.inl ⟨by rfl, ?_⟩) ?_ ?_
          rotate_left
          ·intro w'
           go_simp
           with_reducible rfl
          rotate_left
          ·simp only [Act.put, List.setIfInBounds_toArray, List.set_cons_zero, List.set_cons_succ, i64_w, i32_w]
           rfl
          refine done_ (done_of HT_.out (by kernel_rfl)) ?_
          clear HT_ HW_
          clear hci hlt
          go_wp2
          go_roundw
          case rel => exact ⟨i + 1, by omega, by go_num, HP, HB⟩
          case measure => simp [intOf]; omega
        ·have hie : i = n1 + 40 := by omega
         subst hie
         have hnin : ¬ (((n1 + 40 : Nat) : Int) < ((n1 + 40 : Nat) : Int)) := by omega
         go_wp2
         clear s0
         go_roundw
         case rel => exact ⟨2, by go_num, .inr (.inr rfl), HP, HB⟩
         case measure => simp [intOf]
      ·go_wp2
       go_ret
       exact ⟨rfl, HB.out⟩
end Go.Proofs.Ytinpgejkkfpckaa.Pr
end
