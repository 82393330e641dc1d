/-
  Texts of this session, laid together by wip/tools/merge.py: HAny, HReg42, HRun42, QNums, HReg63.
-/
import Derived.Orders
import Derived.Test.YtafnjlgdjhegaaaWLast
import Derived.Test.YtafnjlgdjhegaaaPr0
import Derived.Test.YtafnjlgdjhegaaaG
import Derived.Deep.DeepCutAuto
import Derived.Deep.CutBlock
import Derived.Test.YtafnjlgdjhegaaaHAwake
import Derived.Test.YtafnjlgdjhegaaaHTake
import Derived.Test.YtafnjlgdjhegaaaPr18
section
namespace Go.Proofs.Ytafnjlgdjhegaaa.Pr
open Go.RowKit
set_option linter.unusedVariables false
theorem count_false_zero : ∀ (l : List Bool), l.count false = 0 → ∀ j, l.getD j true = true
  | [], _, j => by simp
  | b :: l, h, j => by
    cases b with
    | false => simp at h
    | true =>
      have h' : l.count false = 0 := by simpa using h
      cases j with
      | zero => rfl
      | succ j => simpa using count_false_zero l h' j
theorem count_false_set : ∀ (l : List Bool) (i : Nat), l.getD i true = false → (l.set i true).count false + 1 = l.count false
  | [], i, h => by simp at h
  | b :: l, 0, h => by
    have hb : b = false := by simpa using h
    subst hb
    simp
  | b :: l, i + 1, h => by
    have ih := count_false_set l i (by simpa using h)
    cases b <;> simp [List.set_cons_succ] <;> omega
theorem count_false_some : ∀ (l : List Bool), 0 < l.count false → ∃ i, i < l.length ∧ l.getD i true = false ∧ ∀ j, j < i → l.getD j false = true
  | [], h => by simp at h
  | b :: l, h => by
    cases b with
    | false => exact ⟨0, by simp, rfl, fun j hj => by omega⟩
    | true =>
      obtain ⟨i, h1, h2, h3⟩ := count_false_some l (by simpa using h)
      refine ⟨i + 1, by simpa using h1, by simpa using h2, fun j hj => ?_⟩
      cases j with
      | zero => rfl
      | succ j => simpa using h3 j (by omega)
theorem gdA (l : Array Bool) (j : Nat) (b : Bool) : l.getD j b = l.toList.getD j b := by simp [Array.getD_eq_getD_getElem?, List.getD_eq_getElem?_getD]
section
variable {P : Program} {md : Region.Mode} {ops : Array Oper} {Q : Exit → Act → World → Prop}
theorem any_inv (Inv : Array Bool → Act → World → Prop) (hord : ∀ (i : Nat) (o : Oper), ops[i]? = some o → ∀ e ∈ o.after, Region.binds md e = true → e.on < i)
    (hstep : ∀ (l : Array Bool) (a : Act) (w : World) (i : Nat) (o : Oper), l.size = ops.size → Inv l a w → ops[i]? = some o → l.getD i true = false → (∀ e ∈ o.after, Region.binds md e = true → l.getD e.on false = true) →
      ∀ K : Act → World → Prop, Shut (∀ a' w', Inv (l.setIfInBounds i true) a' w' → K a' w') → if Region.wanted o (yielded ops a.tmps) = true then Oper.wp P o a w K Q else K (a.put o.dst undef) w)
    (hdone : ∀ (l : Array Bool) (a : Act) (w : World), Inv l a w → (∀ j, j < ops.size → l.getD j false = true) → Q .normal a w) :
    ∀ (fuel : Nat) (l : Array Bool) (a : Act) (w : World), l.size = ops.size → l.toList.count false = fuel → Inv l a w → wpAny P md ops Q fuel l a w
  | 0, l, a, w, hs, hc, hI => by
    have hall := count_false_zero l.toList hc
    have hg : ∀ j, l.getD j true = true := fun j => by rw [gdA]; exact hall j
    refine ⟨?_, hdone l a w hI fun j hj => ?_⟩
    · unfold Region.ready
      rw [List.filter_eq_nil_iff]
      intro i hi
      rw [hg i]
      simp
    · have := hg j
      rw [Array.getD_eq_getD_getElem?] at this ⊢
      rw [Array.getElem?_eq_getElem (by omega)] at this ⊢
      simpa using this
  | fuel + 1, l, a, w, hs, hc, hI => by
    refine ⟨fun hr => ?_, fun i hi => ?_⟩
    · exfalso
      obtain ⟨i, h1, h2, h3⟩ := count_false_some l.toList (by omega)
      have hil : i < ops.size := by rw [← hs]; simpa using h1
      have : i ∈ Region.ready md ops l := by
        unfold Region.ready
        rw [List.mem_filter, List.mem_range]
        refine ⟨hil, ?_⟩
        rw [gdA, h2, Array.getElem?_eq_getElem hil]
        simp only [Bool.not_false, Option.map_some, Option.getD_some, Bool.true_and, Array.all_eq_true']
        intro e he
        by_cases hb : Region.binds md e = true
        · have := hord i _ (Array.getElem?_eq_getElem hil) e he hb
          rw [gdA, h3 _ this]
          simp
        · simp [hb]
      rw [hr] at this
      cases this
    · unfold Region.ready at hi
      rw [List.mem_filter, List.mem_range] at hi
      obtain ⟨hil, hi2⟩ := hi
      rw [Array.getElem?_eq_getElem hil] at hi2
      simp only [Option.map_some, Option.getD_some, Bool.and_eq_true, Bool.not_eq_true', Array.all_eq_true'] at hi2
      obtain ⟨h1, h2⟩ := hi2
      refine wpOp_step (Array.getElem?_eq_getElem hil) (fun K hK => hstep l a w i _ hs hI (Array.getElem?_eq_getElem hil) h1 (fun e he hb => ?_) K (fun a' w' hI' => hK a' w' (any_inv Inv hord hstep hdone fuel _ a' w' (by simpa using hs) ?_ hI')))
      · have := h2 e he
        rw [hb] at this
        simpa using this
      · have hh := count_false_set l.toList i (by rw [← gdA]; exact h1)
        rw [Array.toList_setIfInBounds]
        omega
theorem region_any {id : Nat} {a : Act} {w : World} (hm : P.follows .mixedOrders = true) (Inv : Array Bool → Act → World → Prop) (hord : ∀ (i : Nat) (o : Oper), ops[i]? = some o → ∀ e ∈ o.after, Region.binds .any e = true → e.on < i)
    (h0 : Inv (Array.replicate ops.size false) a w.drew)
    (hstep : ∀ (l : Array Bool) (a : Act) (w : World) (i : Nat) (o : Oper), l.size = ops.size → Inv l a w → ops[i]? = some o → l.getD i true = false → (∀ e ∈ o.after, Region.binds .any e = true → l.getD e.on false = true) →
      ∀ K : Act → World → Prop, Shut (∀ a' w', Inv (l.setIfInBounds i true) a' w' → K a' w') → if Region.wanted o (yielded ops a.tmps) = true then Oper.wp P o a w K Q else K (a.put o.dst undef) w)
    (hdone : ∀ (l : Array Bool) (a : Act) (w : World), Inv l a w → (∀ j, j < ops.size → l.getD j false = true) → Q .normal a w) : (Code.region id ops true).wp P Q a w :=
  wp_region_any hm (any_inv Inv hord hstep hdone ops.size _ a _ (by simp) (by simp) h0)
end
end Go.Proofs.Ytafnjlgdjhegaaa.Pr
end
section
namespace Go.Proofs.Ytafnjlgdjhegaaa.Pr
open Go.RowKit Go.Proofs.YtafnjlgdjhegaaaW.PrintWords Go.Proofs.YtafnjlgdjhegaaaW.PrintLast Go.Proofs.YtafnjlgdjhegaaaW.PrintMore Go.Proofs.YtafnjlgdjhegaaaG
set_option linter.unusedVariables false
set_option linter.unusedSimpArgs false
/-- Clients' cells, each with the slice that holds its kept replies. -/
def cellC (p : S44 × Option Addr × Nat) : List Value := [.int .i64 p.1.f0, .int .i64 p.1.f1, .slice p.2.1 p.1.f2.length p.2.2]
theorem cellC_get (l : List (S44 × Option Addr × Nat)) (j i : Nat) (p : S44 × Option Addr × Nat) (hp : l[j]? = some p) (hi : i < 3) : (l.flatMap cellC)[j * 3 + i]? = (cellC p)[i]? := by
  induction l generalizing j with
  | nil => simp at hp
  | cons q l ih =>
    rw [List.flatMap_cons]
    cases j with
    | zero =>
      have e : q = p := by simpa using hp
      subst e
      rw [Nat.zero_mul, Nat.zero_add, List.getElem?_append_left (by simpa [cellC] using hi)]
    | succ j =>
      rw [List.getElem?_append_right (by simp [cellC]; omega)]
      have := ih j (by simpa using hp)
      rw [← this]
      congr 1
      simp [cellC]
      omega
theorem C44_cells {w : World} {g : Nat} (ps : List (S44 × Option Addr × Nat)) (hg : w.heap[g]? = some (.cells (ps.flatMap cellC).toArray 44 (0, 0))) (hin : ∀ p ∈ ps, p.1.f2.length ≤ p.2.2 ∧ Kd.C k46 w p.2.1 p.1.f2.length p.1.f2) (hl : ps.length ≤ 1000) :
    Kd.C k44 w (some ⟨g, 0, none⟩) (ps.map (·.1)).length (ps.map (·.1)) := by
  refine ⟨rfl, by rw [List.length_map]; omega, fun _ => ⟨_, rfl, fun j x hx => ?_⟩⟩
  rw [List.getElem?_map] at hx
  obtain ⟨p, hp, rfl⟩ := Option.map_eq_some_iff.1 hx
  obtain ⟨h1, h2⟩ := hin p (List.mem_of_getElem? hp)
  refine ⟨cellC p, rfl, k44_mk w p.1 h1 h2, fun i u hu => ?_⟩
  have hi : i < 3 := by
    have := (List.getElem?_eq_some_iff.1 hu).1
    simpa [cellC] using this
  have hz : k44.sz = 3 := rfl
  have ha : (⟨g, 0, none⟩ : Addr).add (j * 3 + i) = ⟨g, j * 3 + i, none⟩ := by rw [Addr.add_lit, Nat.zero_add]
  rw [hz, ha, blk_cell hg, List.getElem?_toArray, cellC_get ps j i p hp hi]
  exact hu
theorem C46_one {w : World} {g : Nat} (x : Int) (hg : w.heap[g]? = some (.cells #[.int .i64 x, .slice none 0 0] 46 (0, 0))) : Kd.C k46 w (some ⟨g, 0, none⟩) ([⟨x, []⟩] : List S46).length [⟨x, []⟩] := by
  refine ⟨rfl, by simp, fun _ => ⟨_, rfl, fun j p hp => ?_⟩⟩
  cases j with
  | zero =>
    have e : (⟨x, []⟩ : S46) = p := by simpa using hp
    subst e
    refine ⟨[.int .i64 x, .slice none 0 0], rfl, k46_mk w ⟨x, []⟩ (A1 := none) (c1 := 0) (Nat.le_refl _) ⟨rfl, by simp, fun h => absurd h (by simp)⟩, fun i u hu => ?_⟩
    have ha : (⟨g, 0, none⟩ : Addr).add (0 * k46.sz + i) = ⟨g, i, none⟩ := by rw [Addr.add_lit, Nat.zero_mul, Nat.zero_add, Nat.zero_add]
    rw [ha, blk_cell hg]
    simpa using hu
  | succ j => simp at hp
/-- A value reads as clients, as kept replies. -/
def rd44 (v : Value) (w : World) (xs : List S44) : Prop := ∃ A c, v = .slice A xs.length c ∧ xs.length ≤ c ∧ Kd.C k44 w A xs.length xs
def rd46 (v : Value) (w : World) (xs : List S46) : Prop := ∃ A c, v = .slice A xs.length c ∧ xs.length ≤ c ∧ Kd.C k46 w A xs.length xs
theorem rd44.below {v : Value} {w w' : World} {xs : List S44} (h : rd44 v w xs) (hb : Below w.heap.size w w') : rd44 v w' xs := by
  obtain ⟨A, c, e, h1, h2⟩ := h
  exact ⟨A, c, e, h1, Kd.C_below h2 hb⟩
theorem rd46.below {v : Value} {w w' : World} {xs : List S46} (h : rd46 v w xs) (hb : Below w.heap.size w w') : rd46 v w' xs := by
  obtain ⟨A, c, e, h1, h2⟩ := h
  exact ⟨A, c, e, h1, Kd.C_below h2 hb⟩
def kept17 : List S46 := (List.range 17).map fun i : Nat => ⟨((i + 1 : Nat) : Int), []⟩
def many17 : List S44 := (List.range 17).map fun i : Nat => ⟨((i + 1 : Nat) : Int), 0, []⟩
/-- The eight lists. -/
def listX : Nat → List S44
  | 0 => many17
  | 1 => [⟨1, 0, kept17.take 9⟩]
  | 2 => [⟨0, 0, []⟩]
  | 3 => [⟨2, 0, []⟩, ⟨2, 0, []⟩]
  | 4 => [⟨1, -1, []⟩]
  | 5 => [⟨1, 3, [⟨3, []⟩]⟩]
  | 6 => [⟨1, 0, List.replicate 9 z46⟩]
  | _ => List.replicate 17 z44
/-- What holds of the region's slots once they have come up. -/
def G42 (MV : Value) (AK : Option Addr) (cK : Nat) (w : World) : Nat → Value → Prop
  | 0, v => v = MV
  | 1, v => v = .slice AK 17 cK
  | 2, v => v = .slice AK 9 cK
  | 3, v => v = .agg #[.int .i64 1, .int .i64 0, .slice AK 9 cK]
  | 4, v => rd44 v w (listX 1)
  | 5, v => v = .agg #[.int .i64 0, .int .i64 0, .slice none 0 0]
  | 6, v => rd44 v w (listX 2)
  | 7, v => v = .agg #[.int .i64 2, .int .i64 0, .slice none 0 0]
  | 8, v => v = .agg #[.int .i64 2, .int .i64 0, .slice none 0 0]
  | 9, v => rd44 v w (listX 3)
  | 10, v => v = .agg #[.int .i64 1, .int .i64 (-1), .slice none 0 0]
  | 11, v => rd44 v w (listX 4)
  | 12, v => v = .agg #[.int .i64 3, .slice none 0 0]
  | 13, v => rd46 v w [⟨3, []⟩]
  | 14, v => ∃ A c, v = .agg #[.int .i64 1, .int .i64 3, .slice A 1 c] ∧ 1 ≤ c ∧ Kd.C k46 w A 1 [⟨3, []⟩]
  | 15, v => rd44 v w (listX 5)
  | 16, v => rd46 v w (List.replicate 9 z46)
  | 17, v => ∃ A c, v = .agg #[.int .i64 1, .int .i64 0, .slice A 9 c] ∧ 9 ≤ c ∧ Kd.C k46 w A 9 (List.replicate 9 z46)
  | 18, v => rd44 v w (listX 6)
  | 19, v => rd44 v w (listX 7)
  | 20, v => ∃ (g : Nat) (vs : Nat → Value), v = .slice (some ⟨g, 0, none⟩) 8 8 ∧ w.heap[g]? = some (.cells #[vs 0, vs 1, vs 2, vs 3, vs 4, vs 5, vs 6, vs 7] 22 (0, 0)) ∧ ∀ j, j < 8 → rd44 (vs j) w (listX j)
  | 21, v => v = .int .i64 8
  | _, v => v = .int .i64 0
theorem G42.below {MV : Value} {AK : Option Addr} {cK : Nat} {w w' : World} {j : Nat} {v : Value} (h : G42 MV AK cK w j v) (hb : Below w.heap.size w w') : G42 MV AK cK w' j v := by
  match j, h with
  | 0, h => exact h
  | 1, h => exact h
  | 2, h => exact h
  | 3, h => exact h
  | 4, h => exact rd44.below h hb
  | 5, h => exact h
  | 6, h => exact rd44.below h hb
  | 7, h => exact h
  | 8, h => exact h
  | 9, h => exact rd44.below h hb
  | 10, h => exact h
  | 11, h => exact rd44.below h hb
  | 12, h => exact h
  | 13, h => exact rd46.below h hb
  | 14, h => obtain ⟨A, c, e, h1, h2⟩ := h; exact ⟨A, c, e, h1, Kd.C_below h2 hb⟩
  | 15, h => exact rd44.below h hb
  | 16, h => exact rd46.below h hb
  | 17, h => obtain ⟨A, c, e, h1, h2⟩ := h; exact ⟨A, c, e, h1, Kd.C_below h2 hb⟩
  | 18, h => exact rd44.below h hb
  | 19, h => exact rd44.below h hb
  | 20, h => obtain ⟨g, vs, e, h1, h2⟩ := h; exact ⟨g, vs, e, blk_below h1 hb, fun j hj => (h2 j hj).below hb⟩
  | 21, h => exact h
  | n + 22, h => exact h
/-- What is known in the midst of the region. -/
structure Inv42 (B : Array Value) (D : List Deferred) (w0 : World) (MV : Value) (AK : Option Addr) (cK : Nat) (l : Array Bool) (a : Act) (w : World) : Prop where
  sz : a.tmps.size = 468
  df : a.defers = D
  out : ∀ s, s < 278 ∨ 300 < s → a.tmps.getD s undef = B.getD s undef
  bl : Below w0.heap.size w0 w
  val : ∀ j, j < 23 → l.getD j false = true → G42 MV AK cK w j (a.tmps.getD (278 + j) undef)
theorem Inv42.step {B : Array Value} {D : List Deferred} {w0 w w1 : World} {MV : Value} {AK : Option Addr} {cK : Nat} {l : Array Bool} {a : Act} (h : Inv42 B D w0 MV AK cK l a w) (hl : l.size = 23) (j : Nat) (hj : j < 23) (v : Value)
    (hb : Below w.heap.size w w1) (hv : G42 MV AK cK w1 j v) : Inv42 B D w0 MV AK cK (l.setIfInBounds j true) (a.put (some (278 + j)) v) w1 := by
  have hput : ∀ s, (a.put (some (278 + j)) v).tmps.getD s undef = if s = 278 + j then v else a.tmps.getD s undef := by
    intro s
    simp only [Act.put, Array.getD_eq_getD_getElem?, Array.getElem?_setIfInBounds]
    have := h.sz
    by_cases hs : s = 278 + j
    · subst hs
      simp
      rw [if_pos (by omega)]
      rfl
    · rw [if_neg hs, if_neg (fun e => hs e.symm)]
  refine ⟨by simp [Act.put, h.sz], by simp [Act.put, h.df], fun s hs => ?_, below_then h.bl h.bl.size hb, fun i hi hl' => ?_⟩
  · rw [hput, if_neg (by omega)]
    exact h.out s hs
  · rw [hput]
    by_cases hij : i = j
    · subst hij
      rw [if_pos rfl]
      exact hv
    · rw [if_neg (by omega)]
      refine (h.val i hi ?_).below hb
      rw [Array.getD_eq_getD_getElem?, Array.getElem?_setIfInBounds, if_neg (fun e => hij e.symm)] at hl'
      rw [Array.getD_eq_getD_getElem?]
      exact hl'
end Go.Proofs.Ytafnjlgdjhegaaa.Pr
end
section
namespace Go.Proofs.Ytafnjlgdjhegaaa.Pr
open Go.RowKit Go.Proofs.YtafnjlgdjhegaaaW.PrintWords Go.Proofs.YtafnjlgdjhegaaaW.PrintLast Go.Proofs.YtafnjlgdjhegaaaW.PrintMore Go.Proofs.YtafnjlgdjhegaaaG
set_option linter.unusedVariables false
set_option linter.unusedSimpArgs false
/-- The values of some slots. -/
def rhoL (l : List (Nat × Value)) : Operand → Value
  | .tmp t => (l.lookup t).getD undef
  | .const v => v
  | _ => undef
def opIn (l : List (Nat × Value)) : Operand → Bool
  | .tmp t => (l.lookup t).isSome
  | .const _ => true
  | _ => false
def isSel : Op → Bool
  | .select _ _ => true
  | _ => false
theorem lookup_mem {t : Nat} {v : Value} : ∀ {l : List (Nat × Value)}, l.lookup t = some v → (t, v) ∈ l
  | [], h => by simp at h
  | (s, u) :: l, h => by
    rw [List.lookup_cons] at h
    split at h
    · rename_i he
      have : t = s := by simpa using he
      subst this
      cases h
      exact List.mem_cons_self
    · exact List.mem_cons_of_mem _ (lookup_mem h)
theorem run_of (o : Oper) (a : Act) (l : List (Nat × Value)) (hs : isSel o.op = false) (hops : o.op.operands.all (opIn l) = true) (hl : ∀ p ∈ l, a.tmps.getD p.1 undef = p.2) : execOp a.eval o = execOp (rhoL l) o := by
  refine execOp_congr o (fun cs b h => by rw [h] at hs; cases hs) fun x hx => ?_
  have h1 := Array.all_eq_true'.1 hops x hx
  cases x with
  | tmp t =>
    have h2 : (l.lookup t).isSome = true := h1
    obtain ⟨v, hv⟩ := Option.isSome_iff_exists.1 h2
    have h3 := hl _ (lookup_mem hv)
    show a.tmps.getD t undef = (l.lookup t).getD undef
    rw [hv]
    exact h3
  | const v => rfl
  | global g => cases h1
  | func f => cases h1
theorem he_dep {es : Array Edge} {l : Array Bool} (he : ∀ e ∈ es, Region.binds .any e = true → l.getD e.on false = true) (j : Nat) (h : es.any (fun e => Region.binds .any e && e.on == j) = true) : l.getD j false = true := by
  obtain ⟨e, h1, h2⟩ := Array.any_eq_true'.1 h
  simp only [Bool.and_eq_true, beq_iff_eq] at h2
  rw [← h2.2]
  exact he e h1 h2.1
theorem flat46 (xs : List Int) (j i : Nat) (x : Int) (hx : xs[j]? = some x) (hi : i < 2) : (xs.flatMap fun x => [Value.int .i64 x, Value.slice none 0 0])[j * 2 + i]? = [Value.int .i64 x, Value.slice none 0 0][i]? := by
  induction xs generalizing j with
  | nil => simp at hx
  | cons y xs ih =>
    rw [List.flatMap_cons]
    cases j with
    | zero =>
      have e : y = x := by simpa using hx
      subst e
      rw [Nat.zero_mul, Nat.zero_add, List.getElem?_append_left (by simpa using hi)]
    | succ j =>
      rw [List.getElem?_append_right (by simp; omega)]
      rw [← ih j (by simpa using hx)]
      congr 1
      simp
      omega
theorem C46_cells {w : World} {g : Nat} (xs : List Int) (hg : w.heap[g]? = some (.cells (xs.flatMap fun x => [.int .i64 x, .slice none 0 0]).toArray 46 (0, 0))) (hl : xs.length ≤ 1000) : Kd.C k46 w (some ⟨g, 0, none⟩) (xs.map fun x => (⟨x, []⟩ : S46)).length (xs.map fun x => ⟨x, []⟩) := by
  refine ⟨rfl, by rw [List.length_map]; omega, fun _ => ⟨_, rfl, fun j p hp => ?_⟩⟩
  rw [List.getElem?_map] at hp
  obtain ⟨x, hx, rfl⟩ := Option.map_eq_some_iff.1 hp
  refine ⟨[.int .i64 x, .slice none 0 0], rfl, k46_mk w ⟨x, []⟩ (A1 := none) (c1 := 0) (Nat.le_refl _) ⟨rfl, by simp, fun h => absurd h (by simp)⟩, fun i u hu => ?_⟩
  have hi : i < 2 := by simpa using (List.getElem?_eq_some_iff.1 hu).1
  have hz : k46.sz = 2 := rfl
  have ha : (⟨g, 0, none⟩ : Addr).add (j * 2 + i) = ⟨g, j * 2 + i, none⟩ := by rw [Addr.add_lit, Nat.zero_add]
  rw [hz, ha, blk_cell hg, List.getElem?_toArray]
  rw [flat46 xs j i x hx hi]
  exact hu
noncomputable def op42 (i : Nat) : Oper := (opsOf Try.f5 42).getD i default
set_option maxRecDepth 100000
theorem run42_3 (A : Option Addr) (c : Nat) (w : World) : (execOp (rhoL [(280, .slice A 9 c)]) (op42 3)).run Try.prog w = .ok (.value (.agg #[.int .i64 1, .int .i64 0, .slice A 9 c])) w := by kernel_rfl
theorem run42_4 (A : Option Addr) (c : Nat) (w : World) : (execOp (rhoL [(281, .agg #[.int .i64 1, .int .i64 0, .slice A 9 c])]) (op42 4)).run Try.prog w = .ok (.value (.slice (some ⟨w.heap.size, 0, none⟩) 1 1)) (w.alloc (.cells #[.int .i64 1, .int .i64 0, .slice A 9 c] 44)) := by kernel_rfl
theorem run42_5 (A : Option Addr) (c : Nat) (w : World) : (execOp (rhoL []) (op42 5)).run Try.prog w = .ok (.value (.agg #[.int .i64 0, .int .i64 0, .slice none 0 0])) w := by kernel_rfl
theorem run42_6 (A : Option Addr) (c : Nat) (w : World) : (execOp (rhoL [(283, .agg #[.int .i64 0, .int .i64 0, .slice none 0 0])]) (op42 6)).run Try.prog w = .ok (.value (.slice (some ⟨w.heap.size, 0, none⟩) 1 1)) (w.alloc (.cells #[.int .i64 0, .int .i64 0, .slice none 0 0] 44)) := by kernel_rfl
theorem run42_7 (A : Option Addr) (c : Nat) (w : World) : (execOp (rhoL []) (op42 7)).run Try.prog w = .ok (.value (.agg #[.int .i64 2, .int .i64 0, .slice none 0 0])) w := by kernel_rfl
theorem run42_8 (A : Option Addr) (c : Nat) (w : World) : (execOp (rhoL []) (op42 8)).run Try.prog w = .ok (.value (.agg #[.int .i64 2, .int .i64 0, .slice none 0 0])) w := by kernel_rfl
theorem run42_9 (A : Option Addr) (c : Nat) (w : World) : (execOp (rhoL [(285, .agg #[.int .i64 2, .int .i64 0, .slice none 0 0]), (286, .agg #[.int .i64 2, .int .i64 0, .slice none 0 0])]) (op42 9)).run Try.prog w = .ok (.value (.slice (some ⟨w.heap.size, 0, none⟩) 2 2)) (w.alloc (.cells #[.int .i64 2, .int .i64 0, .slice none 0 0, .int .i64 2, .int .i64 0, .slice none 0 0] 44)) := by kernel_rfl
theorem run42_10 (A : Option Addr) (c : Nat) (w : World) : (execOp (rhoL []) (op42 10)).run Try.prog w = .ok (.value (.agg #[.int .i64 1, .int .i64 (-1), .slice none 0 0])) w := by kernel_rfl
theorem run42_11 (A : Option Addr) (c : Nat) (w : World) : (execOp (rhoL [(288, .agg #[.int .i64 1, .int .i64 (-1), .slice none 0 0])]) (op42 11)).run Try.prog w = .ok (.value (.slice (some ⟨w.heap.size, 0, none⟩) 1 1)) (w.alloc (.cells #[.int .i64 1, .int .i64 (-1), .slice none 0 0] 44)) := by kernel_rfl
theorem run42_12 (A : Option Addr) (c : Nat) (w : World) : (execOp (rhoL []) (op42 12)).run Try.prog w = .ok (.value (.agg #[.int .i64 3, .slice none 0 0])) w := by kernel_rfl
theorem run42_13 (A : Option Addr) (c : Nat) (w : World) : (execOp (rhoL [(290, .agg #[.int .i64 3, .slice none 0 0])]) (op42 13)).run Try.prog w = .ok (.value (.slice (some ⟨w.heap.size, 0, none⟩) 1 1)) (w.alloc (.cells #[.int .i64 3, .slice none 0 0] 46)) := by kernel_rfl
theorem run42_14 (A : Option Addr) (c : Nat) (w : World) : (execOp (rhoL [(291, .slice A 1 c)]) (op42 14)).run Try.prog w = .ok (.value (.agg #[.int .i64 1, .int .i64 3, .slice A 1 c])) w := by kernel_rfl
theorem run42_15 (A : Option Addr) (c : Nat) (w : World) : (execOp (rhoL [(292, .agg #[.int .i64 1, .int .i64 3, .slice A 1 c])]) (op42 15)).run Try.prog w = .ok (.value (.slice (some ⟨w.heap.size, 0, none⟩) 1 1)) (w.alloc (.cells #[.int .i64 1, .int .i64 3, .slice A 1 c] 44)) := by kernel_rfl
theorem run42_16 (A : Option Addr) (c : Nat) (w : World) : (execOp (rhoL []) (op42 16)).run Try.prog w = .ok (.value (.slice (some ⟨w.heap.size, 0, none⟩) 9 9)) (w.alloc (.cells ((List.replicate 9 [.int .i64 0, .slice none 0 0]).flatten).toArray 46)) := by kernel_rfl
theorem run42_17 (A : Option Addr) (c : Nat) (w : World) : (execOp (rhoL [(294, .slice A 9 c)]) (op42 17)).run Try.prog w = .ok (.value (.agg #[.int .i64 1, .int .i64 0, .slice A 9 c])) w := by kernel_rfl
theorem run42_18 (A : Option Addr) (c : Nat) (w : World) : (execOp (rhoL [(295, .agg #[.int .i64 1, .int .i64 0, .slice A 9 c])]) (op42 18)).run Try.prog w = .ok (.value (.slice (some ⟨w.heap.size, 0, none⟩) 1 1)) (w.alloc (.cells #[.int .i64 1, .int .i64 0, .slice A 9 c] 44)) := by kernel_rfl
theorem run42_19 (A : Option Addr) (c : Nat) (w : World) : (execOp (rhoL []) (op42 19)).run Try.prog w = .ok (.value (.slice (some ⟨w.heap.size, 0, none⟩) 17 17)) (w.alloc (.cells ((List.replicate 17 [.int .i64 0, .int .i64 0, .slice none 0 0]).flatten).toArray 44)) := by kernel_rfl
theorem run42_22 (A : Option Addr) (c : Nat) (w : World) : (execOp (rhoL []) (op42 22)).run Try.prog w = .ok (.value (.int .i64 0)) w := by kernel_rfl
theorem run42_0 (v : Value) (w : World) : (execOp (rhoL [(43, v)]) (op42 0)).run Try.prog w = .ok (.value v) w := by kernel_rfl
theorem run42_1 (v : Value) (w : World) : (execOp (rhoL [(44, v)]) (op42 1)).run Try.prog w = .ok (.value v) w := by kernel_rfl
theorem run42_2x (A : Option Addr) (c : Nat) (w : World) : (execOp (rhoL [(279, .slice A 17 c)]) (op42 2)).run Try.prog w = (Instr.slice 42 (.slice A 17 c) none (some (.int .i64 9)) none >>= fun v => pure (.value v)).run Try.prog w := by kernel_rfl
theorem run42_2 (A : Option Addr) (c : Nat) (hc : 17 ≤ c) (w : World) : (execOp (rhoL [(279, .slice A 17 c)]) (op42 2)).run Try.prog w = .ok (.value (.slice A 9 c)) w := by
  have h := cut_to (P := Try.prog) 42 46 .i64 Try.underlying42 (i := _) rfl A 17 c 9 (by omega) (by omega) hc w
  rw [run42_2x A c w, Sem.run_bind, h]
  rfl
theorem run42_20 (A0 A1 A2 A3 A4 A5 A6 A7 : Option Addr) (n0 n1 n2 n3 n4 n5 n6 n7 c0 c1 c2 c3 c4 c5 c6 c7 : Nat) (w : World) : (execOp (rhoL [(278, .slice A0 n0 c0), (282, .slice A1 n1 c1), (284, .slice A2 n2 c2), (287, .slice A3 n3 c3), (289, .slice A4 n4 c4), (293, .slice A5 n5 c5), (296, .slice A6 n6 c6), (297, .slice A7 n7 c7)]) (op42 20)).run Try.prog w = .ok (.value (.slice (some ⟨w.heap.size, 0, none⟩) 8 8)) (w.alloc (.cells #[.slice A0 n0 c0, .slice A1 n1 c1, .slice A2 n2 c2, .slice A3 n3 c3, .slice A4 n4 c4, .slice A5 n5 c5, .slice A6 n6 c6, .slice A7 n7 c7] 22)) := by kernel_rfl
theorem run42_21 (A : Option Addr) (n c : Nat) (w : World) : (execOp (rhoL [(298, .slice A n c)]) (op42 21)).run Try.prog w = .ok (.value (.int .i64 n)) w := by kernel_rfl
section
variable {B : Array Value} {D : List Deferred} {w0 w : World} {MV : Value} {AK : Option Addr} {cK : Nat} {l : Array Bool} {a : Act} {Q : Exit → Act → World → Prop}
theorem step42_0 (hB : B.getD 43 undef = MV) (h : Inv42 B D w0 MV AK cK l a w) (hl : l.size = 23) (he : ∀ e ∈ (op42 0).after, Region.binds .any e = true → l.getD e.on false = true) (K : Act → World → Prop) (hK : Shut (∀ a' w', Inv42 B D w0 MV AK cK (l.setIfInBounds 0 true) a' w' → K a' w')) : if Region.wanted (op42 0) (yielded (opsOf Try.f5 42) a.tmps) = true then Oper.wp Try.prog (op42 0) a w K Q else K (a.put (op42 0).dst undef) w := by
  have d0 : a.tmps.getD 43 undef = MV := (h.out 43 (by omega)).trans hB
  refine value_ (N := some 278) (by kernel_rfl) (by kernel_rfl) (by rw [run_of (op42 0) a [(43, MV)] (by kernel_rfl) (by kernel_rfl) (by intro p hp; simp only [List.mem_cons, List.not_mem_nil, or_false] at hp; subst hp; assumption)]; exact run42_0 MV w) (hK.out _ _ (h.step hl 0 (by omega) _ (Below.refl _ _) rfl))
theorem step42_1 (hB : B.getD 44 undef = .slice AK 17 cK) (h : Inv42 B D w0 MV AK cK l a w) (hl : l.size = 23) (he : ∀ e ∈ (op42 1).after, Region.binds .any e = true → l.getD e.on false = true) (K : Act → World → Prop) (hK : Shut (∀ a' w', Inv42 B D w0 MV AK cK (l.setIfInBounds 1 true) a' w' → K a' w')) : if Region.wanted (op42 1) (yielded (opsOf Try.f5 42) a.tmps) = true then Oper.wp Try.prog (op42 1) a w K Q else K (a.put (op42 1).dst undef) w := by
  have d0 : a.tmps.getD 44 undef = .slice AK 17 cK := (h.out 44 (by omega)).trans hB
  refine value_ (N := some 279) (by kernel_rfl) (by kernel_rfl) (by rw [run_of (op42 1) a [(44, .slice AK 17 cK)] (by kernel_rfl) (by kernel_rfl) (by intro p hp; simp only [List.mem_cons, List.not_mem_nil, or_false] at hp; subst hp; assumption)]; exact run42_1 _ w) (hK.out _ _ (h.step hl 1 (by omega) _ (Below.refl _ _) rfl))
theorem step42_2 (hc : 17 ≤ cK) (h : Inv42 B D w0 MV AK cK l a w) (hl : l.size = 23) (he : ∀ e ∈ (op42 2).after, Region.binds .any e = true → l.getD e.on false = true) (K : Act → World → Prop) (hK : Shut (∀ a' w', Inv42 B D w0 MV AK cK (l.setIfInBounds 2 true) a' w' → K a' w')) : if Region.wanted (op42 2) (yielded (opsOf Try.f5 42) a.tmps) = true then Oper.wp Try.prog (op42 2) a w K Q else K (a.put (op42 2).dst undef) w := by
  have d1 : a.tmps.getD 279 undef = .slice AK 17 cK := h.val 1 (by omega) (he_dep he 1 (by kernel_rfl))
  refine value_ (N := some 280) (by kernel_rfl) (by kernel_rfl) (by rw [run_of (op42 2) a [(279, .slice AK 17 cK)] (by kernel_rfl) (by kernel_rfl) (by intro p hp; simp only [List.mem_cons, List.not_mem_nil, or_false] at hp; subst hp; assumption)]; exact run42_2 AK cK hc w) (hK.out _ _ (h.step hl 2 (by omega) _ (Below.refl _ _) rfl))
theorem step42_3  (h : Inv42 B D w0 MV AK cK l a w) (hl : l.size = 23) (he : ∀ e ∈ (op42 3).after, Region.binds .any e = true → l.getD e.on false = true) (K : Act → World → Prop) (hK : Shut (∀ a' w', Inv42 B D w0 MV AK cK (l.setIfInBounds 3 true) a' w' → K a' w')) : if Region.wanted (op42 3) (yielded (opsOf Try.f5 42) a.tmps) = true then Oper.wp Try.prog (op42 3) a w K Q else K (a.put (op42 3).dst undef) w := by
  have d2 : a.tmps.getD 280 undef = .slice AK 9 cK := h.val 2 (by omega) (he_dep he 2 (by kernel_rfl))
  refine value_ (N := some 281) (by kernel_rfl) (by kernel_rfl) (by rw [run_of (op42 3) a [(280, .slice AK 9 cK)] (by kernel_rfl) (by kernel_rfl) (by intro p hp; simp only [List.mem_cons, List.not_mem_nil, or_false] at hp; subst hp; assumption)]; exact run42_3 (AK) (cK) w) (hK.out _ _ (h.step hl 3 (by omega) _ (Below.refl _ _) rfl))
theorem step42_4 (hc : 17 ≤ cK) (hk : Kd.C k46 w0 AK kept17.length kept17) (h : Inv42 B D w0 MV AK cK l a w) (hl : l.size = 23) (he : ∀ e ∈ (op42 4).after, Region.binds .any e = true → l.getD e.on false = true) (K : Act → World → Prop) (hK : Shut (∀ a' w', Inv42 B D w0 MV AK cK (l.setIfInBounds 4 true) a' w' → K a' w')) : if Region.wanted (op42 4) (yielded (opsOf Try.f5 42) a.tmps) = true then Oper.wp Try.prog (op42 4) a w K Q else K (a.put (op42 4).dst undef) w := by
  have d3 : a.tmps.getD 281 undef = .agg #[.int .i64 1, .int .i64 0, .slice AK 9 cK] := h.val 3 (by omega) (he_dep he 3 (by kernel_rfl))
  refine value_ (N := some 282) (by kernel_rfl) (by kernel_rfl) (by rw [run_of (op42 4) a [(281, .agg #[.int .i64 1, .int .i64 0, .slice AK 9 cK])] (by kernel_rfl) (by kernel_rfl) (by intro p hp; simp only [List.mem_cons, List.not_mem_nil, or_false] at hp; subst hp; assumption)]; exact run42_4 (AK) (cK) w) (hK.out _ _ (h.step hl 4 (by omega) _ (below_alloc (Below.refl _ _) _) ⟨_, 1, rfl, by decide, C44_cells [(⟨1, 0, kept17.take 9⟩, AK, cK)] (blk_new _ _) (by intro p hp; simp only [List.mem_cons, List.not_mem_nil, or_false] at hp; subst hp; exact ⟨Nat.le_trans (show (kept17.take 9).length ≤ 17 by decide) hc, Kd.C_below (Kd.C_below (Kd.C_take hk (by decide)) h.bl) (below_alloc (Below.refl _ _) _)⟩) (by simp)⟩))
theorem step42_5  (h : Inv42 B D w0 MV AK cK l a w) (hl : l.size = 23) (he : ∀ e ∈ (op42 5).after, Region.binds .any e = true → l.getD e.on false = true) (K : Act → World → Prop) (hK : Shut (∀ a' w', Inv42 B D w0 MV AK cK (l.setIfInBounds 5 true) a' w' → K a' w')) : if Region.wanted (op42 5) (yielded (opsOf Try.f5 42) a.tmps) = true then Oper.wp Try.prog (op42 5) a w K Q else K (a.put (op42 5).dst undef) w := by
  refine value_ (N := some 283) (by kernel_rfl) (by kernel_rfl) (by rw [run_of (op42 5) a [] (by kernel_rfl) (by kernel_rfl) (by simp)]; exact run42_5 none 0 w) (hK.out _ _ (h.step hl 5 (by omega) _ (Below.refl _ _) rfl))
theorem step42_6  (h : Inv42 B D w0 MV AK cK l a w) (hl : l.size = 23) (he : ∀ e ∈ (op42 6).after, Region.binds .any e = true → l.getD e.on false = true) (K : Act → World → Prop) (hK : Shut (∀ a' w', Inv42 B D w0 MV AK cK (l.setIfInBounds 6 true) a' w' → K a' w')) : if Region.wanted (op42 6) (yielded (opsOf Try.f5 42) a.tmps) = true then Oper.wp Try.prog (op42 6) a w K Q else K (a.put (op42 6).dst undef) w := by
  have d5 : a.tmps.getD 283 undef = .agg #[.int .i64 0, .int .i64 0, .slice none 0 0] := h.val 5 (by omega) (he_dep he 5 (by kernel_rfl))
  refine value_ (N := some 284) (by kernel_rfl) (by kernel_rfl) (by rw [run_of (op42 6) a [(283, .agg #[.int .i64 0, .int .i64 0, .slice none 0 0])] (by kernel_rfl) (by kernel_rfl) (by intro p hp; simp only [List.mem_cons, List.not_mem_nil, or_false] at hp; subst hp; assumption)]; exact run42_6 none 0 w) (hK.out _ _ (h.step hl 6 (by omega) _ (below_alloc (Below.refl _ _) _) ⟨_, 1, rfl, by decide, C44_cells [(⟨0, 0, []⟩, none, 0)] (blk_new _ _) (by intro p hp; simp only [List.mem_cons, List.not_mem_nil, or_false] at hp; subst hp; exact ⟨Nat.le_refl _, ⟨rfl, by simp, fun h => absurd h (by simp)⟩⟩) (by simp)⟩))
theorem step42_7  (h : Inv42 B D w0 MV AK cK l a w) (hl : l.size = 23) (he : ∀ e ∈ (op42 7).after, Region.binds .any e = true → l.getD e.on false = true) (K : Act → World → Prop) (hK : Shut (∀ a' w', Inv42 B D w0 MV AK cK (l.setIfInBounds 7 true) a' w' → K a' w')) : if Region.wanted (op42 7) (yielded (opsOf Try.f5 42) a.tmps) = true then Oper.wp Try.prog (op42 7) a w K Q else K (a.put (op42 7).dst undef) w := by
  refine value_ (N := some 285) (by kernel_rfl) (by kernel_rfl) (by rw [run_of (op42 7) a [] (by kernel_rfl) (by kernel_rfl) (by simp)]; exact run42_7 none 0 w) (hK.out _ _ (h.step hl 7 (by omega) _ (Below.refl _ _) rfl))
theorem step42_8  (h : Inv42 B D w0 MV AK cK l a w) (hl : l.size = 23) (he : ∀ e ∈ (op42 8).after, Region.binds .any e = true → l.getD e.on false = true) (K : Act → World → Prop) (hK : Shut (∀ a' w', Inv42 B D w0 MV AK cK (l.setIfInBounds 8 true) a' w' → K a' w')) : if Region.wanted (op42 8) (yielded (opsOf Try.f5 42) a.tmps) = true then Oper.wp Try.prog (op42 8) a w K Q else K (a.put (op42 8).dst undef) w := by
  refine value_ (N := some 286) (by kernel_rfl) (by kernel_rfl) (by rw [run_of (op42 8) a [] (by kernel_rfl) (by kernel_rfl) (by simp)]; exact run42_8 none 0 w) (hK.out _ _ (h.step hl 8 (by omega) _ (Below.refl _ _) rfl))
theorem step42_9  (h : Inv42 B D w0 MV AK cK l a w) (hl : l.size = 23) (he : ∀ e ∈ (op42 9).after, Region.binds .any e = true → l.getD e.on false = true) (K : Act → World → Prop) (hK : Shut (∀ a' w', Inv42 B D w0 MV AK cK (l.setIfInBounds 9 true) a' w' → K a' w')) : if Region.wanted (op42 9) (yielded (opsOf Try.f5 42) a.tmps) = true then Oper.wp Try.prog (op42 9) a w K Q else K (a.put (op42 9).dst undef) w := by
  have d7 : a.tmps.getD 285 undef = .agg #[.int .i64 2, .int .i64 0, .slice none 0 0] := h.val 7 (by omega) (he_dep he 7 (by kernel_rfl))
  have d8 : a.tmps.getD 286 undef = .agg #[.int .i64 2, .int .i64 0, .slice none 0 0] := h.val 8 (by omega) (he_dep he 8 (by kernel_rfl))
  refine value_ (N := some 287) (by kernel_rfl) (by kernel_rfl) (by rw [run_of (op42 9) a [(285, .agg #[.int .i64 2, .int .i64 0, .slice none 0 0]), (286, .agg #[.int .i64 2, .int .i64 0, .slice none 0 0])] (by kernel_rfl) (by kernel_rfl) (by intro p hp; simp only [List.mem_cons, List.not_mem_nil, or_false] at hp; rcases hp with rfl | rfl <;> assumption)]; exact run42_9 none 0 w) (hK.out _ _ (h.step hl 9 (by omega) _ (below_alloc (Below.refl _ _) _) ⟨_, 2, rfl, by decide, C44_cells [(⟨2, 0, []⟩, none, 0), (⟨2, 0, []⟩, none, 0)] (blk_new _ _) (by intro p hp; simp only [List.mem_cons, List.not_mem_nil, or_false] at hp; rcases hp with rfl | rfl <;> exact ⟨Nat.le_refl _, ⟨rfl, by simp, fun h => absurd h (by simp)⟩⟩) (by simp)⟩))
theorem step42_10  (h : Inv42 B D w0 MV AK cK l a w) (hl : l.size = 23) (he : ∀ e ∈ (op42 10).after, Region.binds .any e = true → l.getD e.on false = true) (K : Act → World → Prop) (hK : Shut (∀ a' w', Inv42 B D w0 MV AK cK (l.setIfInBounds 10 true) a' w' → K a' w')) : if Region.wanted (op42 10) (yielded (opsOf Try.f5 42) a.tmps) = true then Oper.wp Try.prog (op42 10) a w K Q else K (a.put (op42 10).dst undef) w := by
  refine value_ (N := some 288) (by kernel_rfl) (by kernel_rfl) (by rw [run_of (op42 10) a [] (by kernel_rfl) (by kernel_rfl) (by simp)]; exact run42_10 none 0 w) (hK.out _ _ (h.step hl 10 (by omega) _ (Below.refl _ _) rfl))
theorem step42_11  (h : Inv42 B D w0 MV AK cK l a w) (hl : l.size = 23) (he : ∀ e ∈ (op42 11).after, Region.binds .any e = true → l.getD e.on false = true) (K : Act → World → Prop) (hK : Shut (∀ a' w', Inv42 B D w0 MV AK cK (l.setIfInBounds 11 true) a' w' → K a' w')) : if Region.wanted (op42 11) (yielded (opsOf Try.f5 42) a.tmps) = true then Oper.wp Try.prog (op42 11) a w K Q else K (a.put (op42 11).dst undef) w := by
  have d10 : a.tmps.getD 288 undef = .agg #[.int .i64 1, .int .i64 (-1), .slice none 0 0] := h.val 10 (by omega) (he_dep he 10 (by kernel_rfl))
  refine value_ (N := some 289) (by kernel_rfl) (by kernel_rfl) (by rw [run_of (op42 11) a [(288, .agg #[.int .i64 1, .int .i64 (-1), .slice none 0 0])] (by kernel_rfl) (by kernel_rfl) (by intro p hp; simp only [List.mem_cons, List.not_mem_nil, or_false] at hp; subst hp; assumption)]; exact run42_11 none 0 w) (hK.out _ _ (h.step hl 11 (by omega) _ (below_alloc (Below.refl _ _) _) ⟨_, 1, rfl, by decide, C44_cells [(⟨1, -1, []⟩, none, 0)] (blk_new _ _) (by intro p hp; simp only [List.mem_cons, List.not_mem_nil, or_false] at hp; subst hp; exact ⟨Nat.le_refl _, ⟨rfl, by simp, fun h => absurd h (by simp)⟩⟩) (by simp)⟩))
theorem step42_12  (h : Inv42 B D w0 MV AK cK l a w) (hl : l.size = 23) (he : ∀ e ∈ (op42 12).after, Region.binds .any e = true → l.getD e.on false = true) (K : Act → World → Prop) (hK : Shut (∀ a' w', Inv42 B D w0 MV AK cK (l.setIfInBounds 12 true) a' w' → K a' w')) : if Region.wanted (op42 12) (yielded (opsOf Try.f5 42) a.tmps) = true then Oper.wp Try.prog (op42 12) a w K Q else K (a.put (op42 12).dst undef) w := by
  refine value_ (N := some 290) (by kernel_rfl) (by kernel_rfl) (by rw [run_of (op42 12) a [] (by kernel_rfl) (by kernel_rfl) (by simp)]; exact run42_12 none 0 w) (hK.out _ _ (h.step hl 12 (by omega) _ (Below.refl _ _) rfl))
theorem step42_13  (h : Inv42 B D w0 MV AK cK l a w) (hl : l.size = 23) (he : ∀ e ∈ (op42 13).after, Region.binds .any e = true → l.getD e.on false = true) (K : Act → World → Prop) (hK : Shut (∀ a' w', Inv42 B D w0 MV AK cK (l.setIfInBounds 13 true) a' w' → K a' w')) : if Region.wanted (op42 13) (yielded (opsOf Try.f5 42) a.tmps) = true then Oper.wp Try.prog (op42 13) a w K Q else K (a.put (op42 13).dst undef) w := by
  have d12 : a.tmps.getD 290 undef = .agg #[.int .i64 3, .slice none 0 0] := h.val 12 (by omega) (he_dep he 12 (by kernel_rfl))
  refine value_ (N := some 291) (by kernel_rfl) (by kernel_rfl) (by rw [run_of (op42 13) a [(290, .agg #[.int .i64 3, .slice none 0 0])] (by kernel_rfl) (by kernel_rfl) (by intro p hp; simp only [List.mem_cons, List.not_mem_nil, or_false] at hp; subst hp; assumption)]; exact run42_13 none 0 w) (hK.out _ _ (h.step hl 13 (by omega) _ (below_alloc (Below.refl _ _) _) ⟨_, 1, rfl, by decide, C46_cells [3] (blk_new _ _) (by decide)⟩))
theorem step42_14  (h : Inv42 B D w0 MV AK cK l a w) (hl : l.size = 23) (he : ∀ e ∈ (op42 14).after, Region.binds .any e = true → l.getD e.on false = true) (K : Act → World → Prop) (hK : Shut (∀ a' w', Inv42 B D w0 MV AK cK (l.setIfInBounds 14 true) a' w' → K a' w')) : if Region.wanted (op42 14) (yielded (opsOf Try.f5 42) a.tmps) = true then Oper.wp Try.prog (op42 14) a w K Q else K (a.put (op42 14).dst undef) w := by
  obtain ⟨A, c, d13, h1, h2⟩ : rd46 (a.tmps.getD 291 undef) w [⟨3, []⟩] := h.val 13 (by omega) (he_dep he 13 (by kernel_rfl))
  replace d13 : a.tmps.getD 291 undef = .slice A 1 c := d13
  refine value_ (N := some 292) (by kernel_rfl) (by kernel_rfl) (by rw [run_of (op42 14) a [(291, .slice A 1 c)] (by kernel_rfl) (by kernel_rfl) (by intro p hp; simp only [List.mem_cons, List.not_mem_nil, or_false] at hp; subst hp; assumption)]; exact run42_14 (A) (c) w) (hK.out _ _ (h.step hl 14 (by omega) _ (Below.refl _ _) ⟨A, c, rfl, h1, h2⟩))
theorem step42_15  (h : Inv42 B D w0 MV AK cK l a w) (hl : l.size = 23) (he : ∀ e ∈ (op42 15).after, Region.binds .any e = true → l.getD e.on false = true) (K : Act → World → Prop) (hK : Shut (∀ a' w', Inv42 B D w0 MV AK cK (l.setIfInBounds 15 true) a' w' → K a' w')) : if Region.wanted (op42 15) (yielded (opsOf Try.f5 42) a.tmps) = true then Oper.wp Try.prog (op42 15) a w K Q else K (a.put (op42 15).dst undef) w := by
  obtain ⟨A, c, d14, h1, h2⟩ : ∃ A c, a.tmps.getD 292 undef = .agg #[.int .i64 1, .int .i64 3, .slice A 1 c] ∧ 1 ≤ c ∧ Kd.C k46 w A 1 [⟨3, []⟩] := h.val 14 (by omega) (he_dep he 14 (by kernel_rfl))
  refine value_ (N := some 293) (by kernel_rfl) (by kernel_rfl) (by rw [run_of (op42 15) a [(292, .agg #[.int .i64 1, .int .i64 3, .slice A 1 c])] (by kernel_rfl) (by kernel_rfl) (by intro p hp; simp only [List.mem_cons, List.not_mem_nil, or_false] at hp; subst hp; assumption)]; exact run42_15 (A) (c) w) (hK.out _ _ (h.step hl 15 (by omega) _ (below_alloc (Below.refl _ _) _) ⟨_, 1, rfl, by decide, C44_cells [(⟨1, 3, [⟨3, []⟩]⟩, A, c)] (blk_new _ _) (by intro p hp; simp only [List.mem_cons, List.not_mem_nil, or_false] at hp; subst hp; exact ⟨h1, Kd.C_below h2 (below_alloc (Below.refl _ _) _)⟩) (by simp)⟩))
theorem step42_16  (h : Inv42 B D w0 MV AK cK l a w) (hl : l.size = 23) (he : ∀ e ∈ (op42 16).after, Region.binds .any e = true → l.getD e.on false = true) (K : Act → World → Prop) (hK : Shut (∀ a' w', Inv42 B D w0 MV AK cK (l.setIfInBounds 16 true) a' w' → K a' w')) : if Region.wanted (op42 16) (yielded (opsOf Try.f5 42) a.tmps) = true then Oper.wp Try.prog (op42 16) a w K Q else K (a.put (op42 16).dst undef) w := by
  refine value_ (N := some 294) (by kernel_rfl) (by kernel_rfl) (by rw [run_of (op42 16) a [] (by kernel_rfl) (by kernel_rfl) (by simp)]; exact run42_16 none 0 w) (hK.out _ _ (h.step hl 16 (by omega) _ (below_alloc (Below.refl _ _) _) ⟨_, 9, rfl, by decide, C46_cells (List.replicate 9 0) (blk_new _ _) (by decide)⟩))
theorem step42_17  (h : Inv42 B D w0 MV AK cK l a w) (hl : l.size = 23) (he : ∀ e ∈ (op42 17).after, Region.binds .any e = true → l.getD e.on false = true) (K : Act → World → Prop) (hK : Shut (∀ a' w', Inv42 B D w0 MV AK cK (l.setIfInBounds 17 true) a' w' → K a' w')) : if Region.wanted (op42 17) (yielded (opsOf Try.f5 42) a.tmps) = true then Oper.wp Try.prog (op42 17) a w K Q else K (a.put (op42 17).dst undef) w := by
  obtain ⟨A, c, d16, h1, h2⟩ : rd46 (a.tmps.getD 294 undef) w (List.replicate 9 z46) := h.val 16 (by omega) (he_dep he 16 (by kernel_rfl))
  replace d16 : a.tmps.getD 294 undef = .slice A 9 c := d16
  refine value_ (N := some 295) (by kernel_rfl) (by kernel_rfl) (by rw [run_of (op42 17) a [(294, .slice A 9 c)] (by kernel_rfl) (by kernel_rfl) (by intro p hp; simp only [List.mem_cons, List.not_mem_nil, or_false] at hp; subst hp; assumption)]; exact run42_17 (A) (c) w) (hK.out _ _ (h.step hl 17 (by omega) _ (Below.refl _ _) ⟨A, c, rfl, h1, h2⟩))
theorem step42_18  (h : Inv42 B D w0 MV AK cK l a w) (hl : l.size = 23) (he : ∀ e ∈ (op42 18).after, Region.binds .any e = true → l.getD e.on false = true) (K : Act → World → Prop) (hK : Shut (∀ a' w', Inv42 B D w0 MV AK cK (l.setIfInBounds 18 true) a' w' → K a' w')) : if Region.wanted (op42 18) (yielded (opsOf Try.f5 42) a.tmps) = true then Oper.wp Try.prog (op42 18) a w K Q else K (a.put (op42 18).dst undef) w := by
  obtain ⟨A, c, d17, h1, h2⟩ : ∃ A c, a.tmps.getD 295 undef = .agg #[.int .i64 1, .int .i64 0, .slice A 9 c] ∧ 9 ≤ c ∧ Kd.C k46 w A 9 (List.replicate 9 z46) := h.val 17 (by omega) (he_dep he 17 (by kernel_rfl))
  refine value_ (N := some 296) (by kernel_rfl) (by kernel_rfl) (by rw [run_of (op42 18) a [(295, .agg #[.int .i64 1, .int .i64 0, .slice A 9 c])] (by kernel_rfl) (by kernel_rfl) (by intro p hp; simp only [List.mem_cons, List.not_mem_nil, or_false] at hp; subst hp; assumption)]; exact run42_18 (A) (c) w) (hK.out _ _ (h.step hl 18 (by omega) _ (below_alloc (Below.refl _ _) _) ⟨_, 1, rfl, by decide, C44_cells [(⟨1, 0, List.replicate 9 z46⟩, A, c)] (blk_new _ _) (by intro p hp; simp only [List.mem_cons, List.not_mem_nil, or_false] at hp; subst hp; exact ⟨h1, Kd.C_below h2 (below_alloc (Below.refl _ _) _)⟩) (by simp)⟩))
theorem step42_19  (h : Inv42 B D w0 MV AK cK l a w) (hl : l.size = 23) (he : ∀ e ∈ (op42 19).after, Region.binds .any e = true → l.getD e.on false = true) (K : Act → World → Prop) (hK : Shut (∀ a' w', Inv42 B D w0 MV AK cK (l.setIfInBounds 19 true) a' w' → K a' w')) : if Region.wanted (op42 19) (yielded (opsOf Try.f5 42) a.tmps) = true then Oper.wp Try.prog (op42 19) a w K Q else K (a.put (op42 19).dst undef) w := by
  refine value_ (N := some 297) (by kernel_rfl) (by kernel_rfl) (by rw [run_of (op42 19) a [] (by kernel_rfl) (by kernel_rfl) (by simp)]; exact run42_19 none 0 w) (hK.out _ _ (h.step hl 19 (by omega) _ (below_alloc (Below.refl _ _) _) ⟨_, 17, rfl, by decide, C44_cells (List.replicate 17 (z44, none, 0)) (blk_new _ _) (fun p hp => by rw [List.eq_of_mem_replicate hp]; exact ⟨by simp [z44], rfl, by simp [z44], fun h => absurd h (by simp [z44])⟩) (by decide)⟩))
theorem step42_20 (hm : rd44 MV w0 (listX 0)) (h : Inv42 B D w0 MV AK cK l a w) (hl : l.size = 23) (he : ∀ e ∈ (op42 20).after, Region.binds .any e = true → l.getD e.on false = true) (K : Act → World → Prop) (hK : Shut (∀ a' w', Inv42 B D w0 MV AK cK (l.setIfInBounds 20 true) a' w' → K a' w')) : if Region.wanted (op42 20) (yielded (opsOf Try.f5 42) a.tmps) = true then Oper.wp Try.prog (op42 20) a w K Q else K (a.put (op42 20).dst undef) w := by
  obtain ⟨A0, c0, d0, l0, r0⟩ : rd44 (a.tmps.getD 278 undef) w (listX 0) := by rw [show a.tmps.getD 278 undef = MV from h.val 0 (by omega) (he_dep he 0 (by kernel_rfl))]; exact hm.below h.bl
  obtain ⟨A1, c1, d1, l1, r1⟩ : rd44 (a.tmps.getD 282 undef) w (listX 1) := h.val 4 (by omega) (he_dep he 4 (by kernel_rfl))
  obtain ⟨A2, c2, d2, l2, r2⟩ : rd44 (a.tmps.getD 284 undef) w (listX 2) := h.val 6 (by omega) (he_dep he 6 (by kernel_rfl))
  obtain ⟨A3, c3, d3, l3, r3⟩ : rd44 (a.tmps.getD 287 undef) w (listX 3) := h.val 9 (by omega) (he_dep he 9 (by kernel_rfl))
  obtain ⟨A4, c4, d4, l4, r4⟩ : rd44 (a.tmps.getD 289 undef) w (listX 4) := h.val 11 (by omega) (he_dep he 11 (by kernel_rfl))
  obtain ⟨A5, c5, d5, l5, r5⟩ : rd44 (a.tmps.getD 293 undef) w (listX 5) := h.val 15 (by omega) (he_dep he 15 (by kernel_rfl))
  obtain ⟨A6, c6, d6, l6, r6⟩ : rd44 (a.tmps.getD 296 undef) w (listX 6) := h.val 18 (by omega) (he_dep he 18 (by kernel_rfl))
  obtain ⟨A7, c7, d7, l7, r7⟩ : rd44 (a.tmps.getD 297 undef) w (listX 7) := h.val 19 (by omega) (he_dep he 19 (by kernel_rfl))
  have hb : Below w.heap.size w (w.alloc (.cells #[.slice A0 (listX 0).length c0, .slice A1 (listX 1).length c1, .slice A2 (listX 2).length c2, .slice A3 (listX 3).length c3, .slice A4 (listX 4).length c4, .slice A5 (listX 5).length c5, .slice A6 (listX 6).length c6, .slice A7 (listX 7).length c7] 22)) := below_alloc (Below.refl _ _) _
  refine value_ (N := some 298) (by kernel_rfl) (by kernel_rfl) (by rw [run_of (op42 20) a [(278, .slice A0 (listX 0).length c0), (282, .slice A1 (listX 1).length c1), (284, .slice A2 (listX 2).length c2), (287, .slice A3 (listX 3).length c3), (289, .slice A4 (listX 4).length c4), (293, .slice A5 (listX 5).length c5), (296, .slice A6 (listX 6).length c6), (297, .slice A7 (listX 7).length c7)] (by kernel_rfl) (by kernel_rfl) (by intro p hp; simp only [List.mem_cons, List.not_mem_nil, or_false] at hp; rcases hp with rfl | rfl | rfl | rfl | rfl | rfl | rfl | rfl <;> assumption)]; exact run42_20 _ _ _ _ _ _ _ _ _ _ _ _ _ _ _ _ _ _ _ _ _ _ _ _ w) (hK.out _ _ (h.step hl 20 (by omega) _ hb ⟨w.heap.size, fun j => [Value.slice A0 (listX 0).length c0, Value.slice A1 (listX 1).length c1, Value.slice A2 (listX 2).length c2, Value.slice A3 (listX 3).length c3, Value.slice A4 (listX 4).length c4, Value.slice A5 (listX 5).length c5, Value.slice A6 (listX 6).length c6, Value.slice A7 (listX 7).length c7].getD j undef, rfl, blk_new _ _, fun j hj => by
    match j, hj with
    | 0, _ => exact rd44.below ⟨A0, c0, rfl, l0, r0⟩ hb
    | 1, _ => exact rd44.below ⟨A1, c1, rfl, l1, r1⟩ hb
    | 2, _ => exact rd44.below ⟨A2, c2, rfl, l2, r2⟩ hb
    | 3, _ => exact rd44.below ⟨A3, c3, rfl, l3, r3⟩ hb
    | 4, _ => exact rd44.below ⟨A4, c4, rfl, l4, r4⟩ hb
    | 5, _ => exact rd44.below ⟨A5, c5, rfl, l5, r5⟩ hb
    | 6, _ => exact rd44.below ⟨A6, c6, rfl, l6, r6⟩ hb
    | 7, _ => exact rd44.below ⟨A7, c7, rfl, l7, r7⟩ hb⟩))
theorem step42_21  (h : Inv42 B D w0 MV AK cK l a w) (hl : l.size = 23) (he : ∀ e ∈ (op42 21).after, Region.binds .any e = true → l.getD e.on false = true) (K : Act → World → Prop) (hK : Shut (∀ a' w', Inv42 B D w0 MV AK cK (l.setIfInBounds 21 true) a' w' → K a' w')) : if Region.wanted (op42 21) (yielded (opsOf Try.f5 42) a.tmps) = true then Oper.wp Try.prog (op42 21) a w K Q else K (a.put (op42 21).dst undef) w := by
  obtain ⟨g, vs, d20, h1, h2⟩ : ∃ (g : Nat) (vs : Nat → Value), a.tmps.getD 298 undef = .slice (some ⟨g, 0, none⟩) 8 8 ∧ w.heap[g]? = some (.cells #[vs 0, vs 1, vs 2, vs 3, vs 4, vs 5, vs 6, vs 7] 22 (0, 0)) ∧ ∀ j, j < 8 → rd44 (vs j) w (listX j) := h.val 20 (by omega) (he_dep he 20 (by kernel_rfl))
  refine value_ (N := some 299) (by kernel_rfl) (by kernel_rfl) (by rw [run_of (op42 21) a [(298, .slice (some ⟨g, 0, none⟩) 8 8)] (by kernel_rfl) (by kernel_rfl) (by intro p hp; simp only [List.mem_cons, List.not_mem_nil, or_false] at hp; subst hp; assumption)]; exact run42_21 _ 8 8 w) (hK.out _ _ (h.step hl 21 (by omega) _ (Below.refl _ _) rfl))
theorem step42_22  (h : Inv42 B D w0 MV AK cK l a w) (hl : l.size = 23) (he : ∀ e ∈ (op42 22).after, Region.binds .any e = true → l.getD e.on false = true) (K : Act → World → Prop) (hK : Shut (∀ a' w', Inv42 B D w0 MV AK cK (l.setIfInBounds 22 true) a' w' → K a' w')) : if Region.wanted (op42 22) (yielded (opsOf Try.f5 42) a.tmps) = true then Oper.wp Try.prog (op42 22) a w K Q else K (a.put (op42 22).dst undef) w := by
  refine value_ (N := some 300) (by kernel_rfl) (by kernel_rfl) (by rw [run_of (op42 22) a [] (by kernel_rfl) (by kernel_rfl) (by simp)]; exact run42_22 none 0 w) (hK.out _ _ (h.step hl 22 (by omega) _ (Below.refl _ _) rfl))
end
theorem size42 : (opsOf Try.f5 42).size = 23 := by kernel_rfl
theorem ord42 : ((List.range 23).all fun i => (op42 i).after.all fun e => !Region.binds .any e || decide (e.on < i)) = true := by kernel_rfl
theorem is42 {i : Nat} {o : Oper} (h : (opsOf Try.f5 42)[i]? = some o) : i < 23 ∧ op42 i = o := by
  have h1 := (Array.getElem?_eq_some_iff.1 h).1
  refine ⟨by rw [← size42]; exact h1, ?_⟩
  unfold op42
  rw [Array.getD_eq_getD_getElem?, h]
  rfl
theorem within (t : Array Value) (L : List Value) (h1 : t.size = 468) (h2 : L.length = 468) (h : ∀ s, s < 278 ∨ 300 < s → t.getD s undef = L.toArray.getD s undef) :
    t = (L.take 278 ++ ((List.range 23).map (fun j => t.getD (278 + j) undef) ++ L.drop 301)).toArray := by
  apply Array.ext
  · simp; omega
  · intro s hs1 hs2
    have e : t.getD s undef = t[s] := by rw [Array.getD_eq_getD_getElem?, Array.getElem?_eq_getElem hs1]; rfl
    rw [← e, List.getElem_toArray]
    by_cases ha : s < 278
    · rw [List.getElem_append_left (by simp; omega), List.getElem_take, h s (Or.inl ha)]
      simp
      rw [List.getElem?_eq_getElem (by omega)]
      rfl
    · rw [List.getElem_append_right (by simp; omega)]
      by_cases hb : s < 301
      · rw [List.getElem_append_left (by simp; omega)]
        simp only [List.getElem_map, List.getElem_range, List.length_take, h2]
        rw [show 278 + (s - min 278 468) = s from by omega]
      · rw [List.getElem_append_right (by simp; omega), List.getElem_drop, h s (Or.inr (by omega))]
        simp only [List.length_take, List.length_map, List.length_range, h2]
        rw [Array.getD_eq_getD_getElem?, List.getElem?_toArray, List.getElem?_eq_getElem (by omega)]
        simp only [Option.getD_some]
        congr 1
        omega
theorem reg42 {L : List Value} {D : List Deferred} {w : World} {Q : Exit → Act → World → Prop} (MV : Value) (AK : Option Addr) (cK : Nat) (hL : L.length = 468) (h43 : L.getD 43 undef = MV) (h44 : L.getD 44 undef = .slice AK 17 cK)
    (hm : rd44 MV w (listX 0)) (hk : Kd.C k46 w AK kept17.length kept17) (hc : 17 ≤ cK)
    (hfin : ∀ (x0 x1 x2 x3 x4 x5 x6 x7 x8 x9 x10 x11 x12 x13 x14 x15 x16 x17 x18 x19 : Value) (g : Nat) (vs : Nat → Value) (w' : World), Below w.heap.size w w' → w'.heap[g]? = some (.cells #[vs 0, vs 1, vs 2, vs 3, vs 4, vs 5, vs 6, vs 7] 22 (0, 0)) → (∀ j, j < 8 → rd44 (vs j) w' (listX j)) →
      Q .normal ⟨(L.take 278 ++ ([x0, x1, x2, x3, x4, x5, x6, x7, x8, x9, x10, x11, x12, x13, x14, x15, x16, x17, x18, x19, .slice (some ⟨g, 0, none⟩) 8 8, .int .i64 8, .int .i64 0] ++ L.drop 301)).toArray, D⟩ w') :
    (Code.region 42 (opsOf Try.f5 42) true).wp Try.prog Q ⟨L.toArray, D⟩ w := by
  refine region_any (by kernel_rfl) (fun l a w' => Inv42 L.toArray D w MV AK cK l a w') ?_ ?_ ?_ ?_
  · intro i o ho e he hb
    obtain ⟨h1, rfl⟩ := is42 ho
    have h2 := List.all_eq_true.1 ord42 i (List.mem_range.2 h1)
    have h3 := Array.all_eq_true'.1 h2 e he
    rw [hb] at h3
    simpa using h3
  · refine ⟨by simpa using hL, rfl, fun s _ => rfl, below_drew1 (Below.refl _ _), fun j hj h => ?_⟩
    rw [size42, Array.getD_eq_getD_getElem?, Array.getElem?_eq_getElem (by simpa using hj)] at h
    simp at h
  · intro l a w' i o hl h ho _ he K hK
    rw [size42] at hl
    obtain ⟨h1, rfl⟩ := is42 ho
    have hB43 : L.toArray.getD 43 undef = MV := by rw [← h43]; simp
    have hB44 : L.toArray.getD 44 undef = .slice AK 17 cK := by rw [← h44]; simp
    match i, h1 with
    | 0, _ => exact step42_0 hB43 h hl he K hK
    | 1, _ => exact step42_1 hB44 h hl he K hK
    | 2, _ => exact step42_2 hc h hl he K hK
    | 3, _ => exact step42_3 h hl he K hK
    | 4, _ => exact step42_4 hc hk h hl he K hK
    | 5, _ => exact step42_5 h hl he K hK
    | 6, _ => exact step42_6 h hl he K hK
    | 7, _ => exact step42_7 h hl he K hK
    | 8, _ => exact step42_8 h hl he K hK
    | 9, _ => exact step42_9 h hl he K hK
    | 10, _ => exact step42_10 h hl he K hK
    | 11, _ => exact step42_11 h hl he K hK
    | 12, _ => exact step42_12 h hl he K hK
    | 13, _ => exact step42_13 h hl he K hK
    | 14, _ => exact step42_14 h hl he K hK
    | 15, _ => exact step42_15 h hl he K hK
    | 16, _ => exact step42_16 h hl he K hK
    | 17, _ => exact step42_17 h hl he K hK
    | 18, _ => exact step42_18 h hl he K hK
    | 19, _ => exact step42_19 h hl he K hK
    | 20, _ => exact step42_20 hm h hl he K hK
    | 21, _ => exact step42_21 h hl he K hK
    | 22, _ => exact step42_22 h hl he K hK
  · intro l a w' h hall
    rw [size42] at hall
    obtain ⟨t, d⟩ := a
    have hd : d = D := h.df
    subst hd
    have ht := within t L h.sz hL h.out
    have hv := fun j hj => h.val j hj (hall j hj)
    obtain ⟨g, vs, e20, hg, hr⟩ : ∃ (g : Nat) (vs : Nat → Value), t.getD 298 undef = .slice (some ⟨g, 0, none⟩) 8 8 ∧ w'.heap[g]? = some (.cells #[vs 0, vs 1, vs 2, vs 3, vs 4, vs 5, vs 6, vs 7] 22 (0, 0)) ∧ ∀ j, j < 8 → rd44 (vs j) w' (listX j) := hv 20 (by omega)
    have e21 : t.getD 299 undef = .int .i64 8 := hv 21 (by omega)
    have e22 : t.getD 300 undef = .int .i64 0 := hv 22 (by omega)
    have hh := hfin (t.getD 278 undef) (t.getD 279 undef) (t.getD 280 undef) (t.getD 281 undef) (t.getD 282 undef) (t.getD 283 undef) (t.getD 284 undef) (t.getD 285 undef) (t.getD 286 undef) (t.getD 287 undef) (t.getD 288 undef) (t.getD 289 undef) (t.getD 290 undef) (t.getD 291 undef) (t.getD 292 undef) (t.getD 293 undef) (t.getD 294 undef) (t.getD 295 undef) (t.getD 296 undef) (t.getD 297 undef) g vs w' h.bl hg hr
    rw [← e20, ← e21, ← e22] at hh
    rw [ht]
    exact hh
theorem reg42o {ops : Array Oper} (hops : ops = opsOf Try.f5 42) {L : List Value} {D : List Deferred} {w : World} {Q : Exit → Act → World → Prop} (MV : Value) (AK : Option Addr) (cK : Nat) (hL : L.length = 468) (h43 : L.getD 43 undef = MV) (h44 : L.getD 44 undef = .slice AK 17 cK)
    (hm : rd44 MV w (listX 0)) (hk : Kd.C k46 w AK kept17.length kept17) (hc : 17 ≤ cK)
    (hfin : ∀ (x0 x1 x2 x3 x4 x5 x6 x7 x8 x9 x10 x11 x12 x13 x14 x15 x16 x17 x18 x19 : Value) (g : Nat) (vs : Nat → Value) (w' : World), Below w.heap.size w w' → w'.heap[g]? = some (.cells #[vs 0, vs 1, vs 2, vs 3, vs 4, vs 5, vs 6, vs 7] 22 (0, 0)) → (∀ j, j < 8 → rd44 (vs j) w' (listX j)) →
      Q .normal ⟨(L.take 278 ++ ([x0, x1, x2, x3, x4, x5, x6, x7, x8, x9, x10, x11, x12, x13, x14, x15, x16, x17, x18, x19, .slice (some ⟨g, 0, none⟩) 8 8, .int .i64 8, .int .i64 0] ++ L.drop 301)).toArray, D⟩ w') :
    (Code.region 42 ops true).wp Try.prog Q ⟨L.toArray, D⟩ w := by
  subst hops
  exact reg42 MV AK cK hL h43 h44 hm hk hc hfin
end Go.Proofs.Ytafnjlgdjhegaaa.Pr
end
section
namespace Go.Proofs.Ytafnjlgdjhegaaa.Pr
open Go.RowKit Go.Proofs.YtafnjlgdjhegaaaW.PrintWords Go.Proofs.YtafnjlgdjhegaaaG
set_option linter.unusedVariables false
set_option linter.unusedSimpArgs false
set_option maxRecDepth 100000
def listA (i : Nat) : List S44 := (List.range i).map fun j : Nat => ⟨((17 - i + j : Nat) : Int), 0, []⟩
def listD (i : Nat) : List S44 := (List.range 16).map fun j : Nat => ⟨((1 + j : Nat) : Int), 0, if j = 2 then (List.range i).map (fun q : Nat => ⟨((2 * (q + 1) : Nat) : Int), []⟩) else []⟩
theorem listAD : listA 16 = listD 0 := by kernel_rfl
theorem look_A : ∀ i : Nat, i < 16 → session_Look.f (listA i) (17 - ((i : Int) + 1)) 1 0 = some (listA (i + 1), 1, [], 0)
  | 0, _ => by kernel_rfl
  | 1, _ => by kernel_rfl
  | 2, _ => by kernel_rfl
  | 3, _ => by kernel_rfl
  | 4, _ => by kernel_rfl
  | 5, _ => by kernel_rfl
  | 6, _ => by kernel_rfl
  | 7, _ => by kernel_rfl
  | 8, _ => by kernel_rfl
  | 9, _ => by kernel_rfl
  | 10, _ => by kernel_rfl
  | 11, _ => by kernel_rfl
  | 12, _ => by kernel_rfl
  | 13, _ => by kernel_rfl
  | 14, _ => by kernel_rfl
  | 15, _ => by kernel_rfl
  | n + 16, h => by omega
theorem listA_len (i : Nat) : (listA i).length = i := by simp [listA]
theorem look_17 : session_Look.f (listA 16) 17 1 0 = some ([], 0, [], 5) := by kernel_rfl
theorem look_3 : session_Look.f (listA 16) 3 1 0 = some (listA 16, 1, [], 0) := by kernel_rfl
theorem done_D : ∀ i : Nat, i < 8 → session_Done.f (listD i) 3 (2 * ((i : Int) + 1)) [] = some (listD (i + 1), 0)
  | 0, _ => by kernel_rfl
  | 1, _ => by kernel_rfl
  | 2, _ => by kernel_rfl
  | 3, _ => by kernel_rfl
  | 4, _ => by kernel_rfl
  | 5, _ => by kernel_rfl
  | 6, _ => by kernel_rfl
  | 7, _ => by kernel_rfl
  | n + 8, h => by omega
theorem look_busy : session_Look.f (listD 8) 3 3 0 = some (listD 8, 4, [], 0) := by kernel_rfl
def listF : List S44 := (lookGood (listD 8) 3 5 2).1
theorem look_free : session_Look.f (listD 8) 3 5 2 = some (listF, 1, [], 0) := by kernel_rfl
theorem done_3 : session_Done.f (listD 8) 3 3 [] = some ([], 5) := by kernel_rfl
theorem done_2 : session_Done.f (listD 8) 3 2 [] = some ([], 2) := by kernel_rfl
theorem done_99 : session_Done.f (listD 8) 99 1 [] = some ([], 2) := by kernel_rfl
theorem done_4 (rep : List Int) : session_Done.f (listD 8) 4 1 rep = some (if 65536 < rep.length then ([], 3) else (doneRow (listD 8) 3 1 rep, 0)) := by
  have h1 : doneFine (listD 8) 4 1 = true := by kernel_rfl
  have h2 : doneArgs (listD 8) 4 1 = true := by kernel_rfl
  have h3 : under ((listD 8).map S44.f0) 4 = 3 := by kernel_rfl
  have h4 : hasN (((listD 8).getD 3 z44).f2.map S46.f0) 1 = false := by kernel_rfl
  have h5 : ((listD 8).getD 3 z44).f2.length = 0 := by kernel_rfl
  unfold session_Done.f donePure doneGood
  rw [if_pos h1, if_pos h2, h3]
  simp only [h4, h5]
  simp
theorem done_long (rep : List Int) (h : 65536 < rep.length) : session_Done.f (listD 8) 4 1 rep = some ([], 3) := by rw [done_4, if_pos h]
theorem done_short (rep : List Int) (h : rep.length ≤ 65536) : session_Done.f (listD 8) 4 1 rep = some (doneRow (listD 8) 3 1 rep, 0) := by rw [done_4, if_neg (by omega)]
def six : List (Int × Int × Int) := [(0, 1, 0), (1, 0, 0), (1, 1, 1), (1, 1, -1), (4611686018427387905, 1, 0), (1, 4611686018427387905, 0)]
theorem look_six : ∀ i, i < 6 → session_Look.f [] (six.getD i (0, 0, 0)).1 (six.getD i (0, 0, 0)).2.1 (six.getD i (0, 0, 0)).2.2 = some ([], 0, [], 2)
  | 0, _ => by kernel_rfl
  | 1, _ => by kernel_rfl
  | 2, _ => by kernel_rfl
  | 3, _ => by kernel_rfl
  | 4, _ => by kernel_rfl
  | 5, _ => by kernel_rfl
  | n + 6, h => by omega
theorem right_many : rightB (many17.take 16) = true := by kernel_rfl
theorem right_kept : rightB [⟨1, 0, kept17.take 8⟩] = true := by kernel_rfl
theorem list_X : ∀ i, i < 8 → rightB (listX i) = false ∧ session_Look.f (listX i) 1 1 0 = some ([], 0, [], 2)
  | 0, _ => ⟨by kernel_rfl, by kernel_rfl⟩
  | 1, _ => ⟨by kernel_rfl, by kernel_rfl⟩
  | 2, _ => ⟨by kernel_rfl, by kernel_rfl⟩
  | 3, _ => ⟨by kernel_rfl, by kernel_rfl⟩
  | 4, _ => ⟨by kernel_rfl, by kernel_rfl⟩
  | 5, _ => ⟨by kernel_rfl, by kernel_rfl⟩
  | 6, _ => ⟨by kernel_rfl, by kernel_rfl⟩
  | 7, _ => ⟨by kernel_rfl, by kernel_rfl⟩
  | n + 8, h => by omega
/-- An asker that has asked i times. -/
def waitL (i : Nat) : List S70 := (List.range i).map fun j : Nat => ⟨((j + 1 : Nat) : Int), []⟩
theorem begin_5 : session_Begin.f 5 = some (5, 1, 0, waitL 0, 0) := by kernel_rfl
theorem ask_i : ∀ i : Nat, i < 8 → session_Ask.f 100 5 ((i : Int) + 1) 0 (waitL i) [] = some (5, (i : Int) + 1 + 1, 0, waitL (i + 1), (i : Int) + 1, 0)
  | 0, _ => by kernel_rfl
  | 1, _ => by kernel_rfl
  | 2, _ => by kernel_rfl
  | 3, _ => by kernel_rfl
  | 4, _ => by kernel_rfl
  | 5, _ => by kernel_rfl
  | 6, _ => by kernel_rfl
  | 7, _ => by kernel_rfl
  | n + 8, h => by omega
theorem ask_full : session_Ask.f 100 5 9 0 (waitL 8) [] = some (0, 0, 0, [], 0, 7) := by kernel_rfl
/-- Without the second wait. -/
def waitM : List S70 := takeL (waitL 8) 2
theorem waits_8 : session_waits.f 100 (waitL 8) = some (waitL 8) := by kernel_rfl
theorem take_2 : takeS 5 9 0 (waitL 8) 2 = (5, 9, 0, waitM, true, 0) := by kernel_rfl
theorem ask_M : session_Ask.f 100 5 9 0 waitM [] = some (0, 0, 0, [], 0, 7) := by kernel_rfl
theorem waits_M : session_waits.f 100 waitM = some waitM := by kernel_rfl
theorem take_M2 : takeS 5 9 0 waitM 2 = (5, 9, 0, waitM, false, 0) := by kernel_rfl
def waitN : List S70 := takeL waitM 1
theorem take_M1 : takeS 5 9 0 waitM 1 = (5, 9, 2, waitN, true, 0) := by kernel_rfl
theorem ask_N : session_Ask.f 100 5 9 2 waitN [] = some (5, 10, 2, waitN ++ [⟨9, []⟩], 9, 0) := by kernel_rfl
theorem ask_long (body : List Int) (h : (body.length : Int) > 65536) : session_Ask.f 100 5 9 2 waitN body = some (0, 0, 0, [], 0, 3) := by
  have h1 : session_RightAsker.f 5 9 2 waitN = some true := by kernel_rfl
  unfold session_Ask.f
  rw [h1, Option.bind_some, if_pos rfl, if_pos h]
theorem begin_0 : session_Begin.f 0 = some (0, 0, 0, [], 2) := by kernel_rfl
theorem ask_12 : session_Ask.f 100 1 2 0 [] [] = some (0, 0, 0, [], 0, 2) := by kernel_rfl
theorem ask_end : session_Ask.f 100 1 4611686018427387904 4611686018427387903 [] [] = some (0, 0, 0, [], 0, 5) := by kernel_rfl
theorem right_end : askerB 1 4611686018427387904 4611686018427387903 [] = true := by kernel_rfl
end Go.Proofs.Ytafnjlgdjhegaaa.Pr
end
section
namespace Go.Proofs.Ytafnjlgdjhegaaa.Pr
open Go.RowKit Go.Proofs.YtafnjlgdjhegaaaW.PrintWords Go.Proofs.YtafnjlgdjhegaaaW.PrintLast Go.Proofs.YtafnjlgdjhegaaaW.PrintMore Go.Proofs.YtafnjlgdjhegaaaG
set_option linter.unusedVariables false
set_option linter.unusedSimpArgs false
def slot63 : Nat → Nat
  | 0 => 377
  | 1 => 378
  | 2 => 379
  | 3 => 376
  | 4 => 380
  | 5 => 381
  | 6 => 382
  | 7 => 74
  | 9 => 75
  | _ => 76
theorem slot63_ne : ∀ i, i < 11 → ∀ j, j < 11 → i ≠ 8 → j ≠ 8 → i ≠ j → slot63 i ≠ slot63 j := by
  have h : ((List.range 11).all fun i => (List.range 11).all fun j => i == 8 || j == 8 || i == j || slot63 i != slot63 j) = true := by decide
  intro i hi j hj h1 h2 h3
  have h4 := List.all_eq_true.1 (List.all_eq_true.1 h i (List.mem_range.2 hi)) j (List.mem_range.2 hj)
  simpa [h1, h2, h3] using h4
theorem slot63_in : ∀ i, i < 11 → i ≠ 8 → (74 ≤ slot63 i ∧ slot63 i ≤ 76) ∨ (376 ≤ slot63 i ∧ slot63 i ≤ 382) := by decide
def zero50 : Array Value := #[.int .i64 0, .int .i64 0, .int .i64 0, .slice none 0 0]
/-- What holds of the region's slots once they have come up. -/
def G63 (n0 : Nat) (R52 : Array Value) (l : Array Bool) (w : World) : Nat → Value → Prop
  | 0, v => v = .agg R52
  | 1, v => l.getD 2 false = false → ∃ (A : Option Addr) (c : Nat) (rep : List Int), v = .slice A rep.length c ∧ rep.length = 65537 ∧ rep.length ≤ c ∧ Kd.C (Kd.int .u8) w A rep.length rep
  | 2, v => ∃ (A : Option Addr) (c : Nat), v = .tuple #[.agg #[.int .i64 0, .int .i64 0, .int .i64 0, .slice A 0 c], .int .i64 0, .int .i64 3]
  | 3, v => ∃ (A : Option Addr) (c : Nat), v = .tuple #[.agg #[.int .i64 0, .int .i64 0, .int .i64 0, .slice A 0 c], .int .i64 0, .int .i64 3]
  | 4, v => ∃ (A : Option Addr) (c : Nat), v = .agg #[.int .i64 0, .int .i64 0, .int .i64 0, .slice A 0 c]
  | 5, v => v = .int .i64 0
  | 6, v => v = .int .i64 3
  | 7, v => ∃ g, v = .pointer (some ⟨g, 0, none⟩) ∧ n0 ≤ g ∧ (l.getD 8 false = false → w.heap[g]? = some (.cells zero50 50 (0, 0)))
  | 9, v => v = .int .i64 0
  | 10, v => v = .int .i64 3
  | _, _ => True
theorem set_false {l : Array Bool} {j k : Nat} (h : (l.setIfInBounds j true).getD k false = false) : l.getD k false = false := by
  rw [Array.getD_eq_getD_getElem?, Array.getElem?_setIfInBounds] at h
  rw [Array.getD_eq_getD_getElem?]
  by_cases hjk : j = k
  · subst hjk
    rw [if_pos rfl] at h
    by_cases hs : j < l.size
    · rw [if_pos hs] at h
      cases h
    · rw [Array.getElem?_eq_none (by omega)]
      rfl
  · rw [if_neg hjk] at h
    exact h
theorem G63.below {n0 : Nat} {R52 : Array Value} {l : Array Bool} {w w' : World} {i : Nat} {v : Value} (h : G63 n0 R52 l w i v) (hb : Below w.heap.size w w') (j : Nat) : G63 n0 R52 (l.setIfInBounds j true) w' i v := by
  match i, h with
  | 0, h => exact h
  | 1, h => intro h2; obtain ⟨A, c, rep, e, h3, h4, h5⟩ := h (set_false h2); exact ⟨A, c, rep, e, h3, h4, Kd.C_below h5 hb⟩
  | 2, h => exact h
  | 3, h => exact h
  | 4, h => exact h
  | 5, h => exact h
  | 6, h => exact h
  | 7, h => obtain ⟨g, e, h3, h4⟩ := h; exact ⟨g, e, h3, fun h2 => blk_below (h4 (set_false h2)) hb⟩
  | 8, h => exact trivial
  | 9, h => exact h
  | 10, h => exact h
  | n + 11, h => exact trivial
structure Inv63 (B : Array Value) (D : List Deferred) (w0 : World) (R52 : Array Value) (l : Array Bool) (a : Act) (w : World) : Prop where
  sz : a.tmps.size = 468
  df : a.defers = D
  out : ∀ s, (s < 74 ∨ 76 < s) → (s < 376 ∨ 382 < s) → a.tmps.getD s undef = B.getD s undef
  bl : Below w0.heap.size w0 w
  val : ∀ j, j < 11 → j ≠ 8 → l.getD j false = true → G63 w0.heap.size R52 l w j (a.tmps.getD (slot63 j) undef)
theorem put_getD {a : Act} (N : Nat) (v : Value) (s : Nat) (h : a.tmps.size = 468) (hN : N < 468) : (a.put (some N) v).tmps.getD s undef = if s = N then v else a.tmps.getD s undef := by
  simp only [Act.put, Array.getD_eq_getD_getElem?, Array.getElem?_setIfInBounds]
  by_cases hs : s = N
  · subst hs
    simp
    rw [if_pos (by omega)]
    rfl
  · rw [if_neg hs, if_neg (fun e => hs e.symm)]
section
variable {B : Array Value} {D : List Deferred} {w0 w w1 : World} {R52 : Array Value} {l : Array Bool} {a : Act} {Q : Exit → Act → World → Prop}
theorem Inv63.step (h : Inv63 B D w0 R52 l a w) (j : Nat) (hj : j < 11) (hj8 : j ≠ 8) (v : Value) (hb : Below w.heap.size w w1) (hv : G63 w0.heap.size R52 (l.setIfInBounds j true) w1 j v) :
    Inv63 B D w0 R52 (l.setIfInBounds j true) (a.put (some (slot63 j)) v) w1 := by
  have hin := slot63_in j hj hj8
  have hput := fun s => put_getD (a := a) (slot63 j) v s h.sz (by omega)
  refine ⟨by simp [Act.put, h.sz], by simp [Act.put, h.df], fun s h1 h2 => ?_, below_then h.bl h.bl.size hb, fun i hi hi8 hl' => ?_⟩
  · rw [hput, if_neg (by omega)]
    exact h.out s h1 h2
  · rw [hput]
    by_cases hij : i = j
    · subst hij
      rw [if_pos rfl]
      exact hv
    · rw [if_neg (slot63_ne i hi j hj hi8 hj8 hij)]
      refine (h.val i hi hi8 ?_).below hb j
      rw [Array.getD_eq_getD_getElem?, Array.getElem?_setIfInBounds, if_neg (fun e => hij e.symm)] at hl'
      rw [Array.getD_eq_getD_getElem?]
      exact hl'
noncomputable def op63 (i : Nat) : Oper := (opsOf Try.f5 63).getD i default
set_option maxRecDepth 100000
theorem run63_0 (c0 c1 c2 : Int) (A : Option Addr) (n c : Nat) (g : Nat) (w : World) (h : w.heap[g]? = some (.cells #[.int .i64 c0, .int .i64 c1, .int .i64 c2, .slice A n c] 50 (0, 0))) :
    (execOp (rhoL [(52, .pointer (some ⟨g, 0, none⟩))]) (op63 0)).run Try.prog w = .ok (.value (.agg #[.int .i64 c0, .int .i64 c1, .int .i64 c2, .slice A n c])) w := by
  have e : execOp (rhoL [(52, .pointer (some ⟨g, 0, none⟩))]) (op63 0) = (Instr.loadAt 50 (.pointer (some ⟨g, 0, none⟩)) >>= fun v => pure (.value v)) := by kernel_rfl
  rw [e]
  have hu50 := Try.underlying50
  have d0 := (blk_cell h 0).trans rfl
  have d1 := (blk_cell h 1).trans rfl
  have d2 := (blk_cell h 2).trans rfl
  have d3 := (blk_cell h 3).trans rfl
  go_simp
theorem run63_3 (A : Option Addr) (c : Nat) (w : World) : (execOp (rhoL [(379, .tuple #[.agg #[.int .i64 0, .int .i64 0, .int .i64 0, .slice A 0 c], .int .i64 0, .int .i64 3])]) (op63 3)).run Try.prog w = .ok (.value (.tuple #[.agg #[.int .i64 0, .int .i64 0, .int .i64 0, .slice A 0 c], .int .i64 0, .int .i64 3])) w := by kernel_rfl
theorem run63_4 (A : Option Addr) (c : Nat) (w : World) : (execOp (rhoL [(376, .tuple #[.agg #[.int .i64 0, .int .i64 0, .int .i64 0, .slice A 0 c], .int .i64 0, .int .i64 3])]) (op63 4)).run Try.prog w = .ok (.value (.agg #[.int .i64 0, .int .i64 0, .int .i64 0, .slice A 0 c])) w := by kernel_rfl
theorem run63_5 (A : Option Addr) (c : Nat) (w : World) : (execOp (rhoL [(376, .tuple #[.agg #[.int .i64 0, .int .i64 0, .int .i64 0, .slice A 0 c], .int .i64 0, .int .i64 3])]) (op63 5)).run Try.prog w = .ok (.value (.int .i64 0)) w := by kernel_rfl
theorem run63_6 (A : Option Addr) (c : Nat) (w : World) : (execOp (rhoL [(376, .tuple #[.agg #[.int .i64 0, .int .i64 0, .int .i64 0, .slice A 0 c], .int .i64 0, .int .i64 3])]) (op63 6)).run Try.prog w = .ok (.value (.int .i64 3)) w := by kernel_rfl
theorem run63_7 (w : World) : (execOp (rhoL []) (op63 7)).run Try.prog w = .ok (.value (.pointer (some ⟨w.heap.size, 0, none⟩))) (w.alloc (.cells zero50 50)) := by kernel_rfl
theorem run63_9 (w : World) : (execOp (rhoL [(381, .int .i64 0)]) (op63 9)).run Try.prog w = .ok (.value (.int .i64 0)) w := by kernel_rfl
theorem run63_10 (w : World) : (execOp (rhoL [(382, .int .i64 3)]) (op63 10)).run Try.prog w = .ok (.value (.int .i64 3)) w := by kernel_rfl
theorem step63_0 {g52 : Nat} {c0 c1 c2 : Int} {A : Option Addr} {n c : Nat} (hB : B.getD 52 undef = .pointer (some ⟨g52, 0, none⟩)) (hR : R52 = #[.int .i64 c0, .int .i64 c1, .int .i64 c2, .slice A n c]) (hX : w0.heap[g52]? = some (.cells R52 50 (0, 0))) (h : Inv63 B D w0 R52 l a w) (hl : l.size = 11) (he : ∀ e ∈ (op63 0).after, Region.binds .any e = true → l.getD e.on false = true) (K : Act → World → Prop) (hK : Shut (∀ a' w', Inv63 B D w0 R52 (l.setIfInBounds 0 true) a' w' → K a' w')) : if Region.wanted (op63 0) (yielded (opsOf Try.f5 63) a.tmps) = true then Oper.wp Try.prog (op63 0) a w K Q else K (a.put (op63 0).dst undef) w := by
  have d0 : a.tmps.getD 52 undef = .pointer (some ⟨g52, 0, none⟩) := (h.out 52 (by omega) (by omega)).trans hB
  have hx := blk_below hX h.bl
  rw [hR] at hx
  refine value_ (N := some (slot63 0)) (by kernel_rfl) (by kernel_rfl) (by rw [run_of (op63 0) a [(52, .pointer (some ⟨g52, 0, none⟩))] (by kernel_rfl) (by kernel_rfl) (by intro p hp; simp only [List.mem_cons, List.not_mem_nil, or_false] at hp; subst hp; assumption)]; exact run63_0 c0 c1 c2 A n c g52 w hx) (hK.out _ _ (h.step 0 (by omega) (by omega) _ (Below.refl _ _) (show Value.agg _ = Value.agg R52 by rw [hR])))
theorem step63_1 (h : Inv63 B D w0 R52 l a w) (hl : l.size = 11) (he : ∀ e ∈ (op63 1).after, Region.binds .any e = true → l.getD e.on false = true) (K : Act → World → Prop) (hK : Shut (∀ a' w', Inv63 B D w0 R52 (l.setIfInBounds 1 true) a' w' → K a' w')) : if Region.wanted (op63 1) (yielded (opsOf Try.f5 63) a.tmps) = true then Oper.wp Try.prog (op63 1) a w K Q else K (a.put (op63 1).dst undef) w := by
  refine Kd.R_make_step (Kd.int .u8) (w0 := w) w.heap.size 5 (by kernel_rfl) (N := 378) (by kernel_rfl) 23 (.const (.int .i64 65537)) (.const (.int .i64 65537)) (by kernel_rfl) 65537 rfl rfl Try.underlying23 (.int .u8 0) 1 info5 rfl (by decide) (by omega) (0 : Int) (ok := fun _ => True) (okp := fun _ => True) (show Kd.M (Kd.int .u8) _ _ _ 0 [.int .u8 0] from rfl) (fun _ h => h) trivial (by omega) (by decide) (Below.refl _ _) (Nat.le_refl _) ?_
  intro v w1 r hb hg hat
  have e : (op63 1).dst = some (slot63 1) := by kernel_rfl
  rw [e]
  refine hK.out _ _ (h.step 1 (by omega) (by omega) v hb ?_)
  intro _
  generalize hrep : List.replicate _ (0 : Int) = rep at r
  obtain ⟨A, c, ev, hc, hC⟩ := Kd.R_reads r
  exact ⟨A, c, rep, ev, by rw [← hrep, List.length_replicate]; rfl, hc, hC⟩
theorem step63_2 {A3 : Option Addr} {c3 : Nat} (hR : R52 = #[.int .i64 5, .int .i64 9, .int .i64 2, .slice A3 waitN.length c3]) (hk : Kd.C k70 w0 A3 waitN.length waitN) (hc : waitN.length ≤ c3) (h : Inv63 B D w0 R52 l a w) (hl : l.size = 11) (he : ∀ e ∈ (op63 2).after, Region.binds .any e = true → l.getD e.on false = true) (K : Act → World → Prop) (hK : Shut (∀ a' w', Inv63 B D w0 R52 (l.setIfInBounds 2 true) a' w' → K a' w')) (h2 : l.getD 2 false = false) : if Region.wanted (op63 2) (yielded (opsOf Try.f5 63) a.tmps) = true then Oper.wp Try.prog (op63 2) a w K Q else K (a.put (op63 2).dst undef) w := by
  have d0 : a.tmps.getD 377 undef = .agg R52 := h.val 0 (by omega) (by omega) (he_dep he 0 (by kernel_rfl))
  obtain ⟨A, c, rep, d1, hl1, hl2, hC⟩ : ∃ (A : Option Addr) (c : Nat) (rep : List Int), a.tmps.getD 378 undef = .slice A rep.length c ∧ rep.length = 65537 ∧ rep.length ≤ c ∧ Kd.C (Kd.int .u8) w A rep.length rep := h.val 1 (by omega) (by omega) (he_dep he 1 (by kernel_rfl)) h2
  rw [hR] at d0
  refine goes_ Try.func22 (by kernel_rfl) rfl #[.agg #[.int .i64 5, .int .i64 9, .int .i64 2, .slice A3 waitN.length c3], .slice A rep.length c] (by kernel_rfl) (N := some (slot63 2)) (by kernel_rfl) («as» := #[.tmp 377, .tmp 378]) (ts := #[50, 23]) (by kernel_rfl) ?_ ?_
  · simp only [List.map_toArray, List.map_cons, List.map_nil, Act.eval, d0, d1]
  refine (session_Ask.calls 100 5 9 2 A3 c3 waitN A c rep 0 0 0 [] 0 3 w (Kd.C_below hk h.bl) hc hC hl2 (ask_long rep (by omega))).mono ?_
  rintro e w1 ⟨v, rfl, r, hb⟩
  obtain ⟨Ab, cb, rfl, _, _⟩ := Kd.R_reads (Kd.S_R r)
  exact ⟨_, rfl, hK.out _ _ (h.step 2 (by omega) (by omega) _ hb ⟨Ab, cb, rfl⟩)⟩
theorem step63_3  (h : Inv63 B D w0 R52 l a w) (hl : l.size = 11) (he : ∀ e ∈ (op63 3).after, Region.binds .any e = true → l.getD e.on false = true) (K : Act → World → Prop) (hK : Shut (∀ a' w', Inv63 B D w0 R52 (l.setIfInBounds 3 true) a' w' → K a' w')) : if Region.wanted (op63 3) (yielded (opsOf Try.f5 63) a.tmps) = true then Oper.wp Try.prog (op63 3) a w K Q else K (a.put (op63 3).dst undef) w := by
  obtain ⟨A, c, d2⟩ : ∃ (A : Option Addr) (c : Nat), a.tmps.getD 379 undef = .tuple #[.agg #[.int .i64 0, .int .i64 0, .int .i64 0, .slice A 0 c], .int .i64 0, .int .i64 3] := h.val 2 (by omega) (by omega) (he_dep he 2 (by kernel_rfl))
  refine value_ (N := some (slot63 3)) (by kernel_rfl) (by kernel_rfl) (by rw [run_of (op63 3) a [(379, .tuple #[.agg #[.int .i64 0, .int .i64 0, .int .i64 0, .slice A 0 c], .int .i64 0, .int .i64 3])] (by kernel_rfl) (by kernel_rfl) (by intro p hp; simp only [List.mem_cons, List.not_mem_nil, or_false] at hp; subst hp; assumption)]; exact run63_3 A c w) (hK.out _ _ (h.step 3 (by omega) (by omega) _ (Below.refl _ _) ⟨A, c, rfl⟩))
theorem step63_4  (h : Inv63 B D w0 R52 l a w) (hl : l.size = 11) (he : ∀ e ∈ (op63 4).after, Region.binds .any e = true → l.getD e.on false = true) (K : Act → World → Prop) (hK : Shut (∀ a' w', Inv63 B D w0 R52 (l.setIfInBounds 4 true) a' w' → K a' w')) : if Region.wanted (op63 4) (yielded (opsOf Try.f5 63) a.tmps) = true then Oper.wp Try.prog (op63 4) a w K Q else K (a.put (op63 4).dst undef) w := by
  obtain ⟨A, c, d3⟩ : ∃ (A : Option Addr) (c : Nat), a.tmps.getD 376 undef = .tuple #[.agg #[.int .i64 0, .int .i64 0, .int .i64 0, .slice A 0 c], .int .i64 0, .int .i64 3] := h.val 3 (by omega) (by omega) (he_dep he 3 (by kernel_rfl))
  refine value_ (N := some (slot63 4)) (by kernel_rfl) (by kernel_rfl) (by rw [run_of (op63 4) a [(376, .tuple #[.agg #[.int .i64 0, .int .i64 0, .int .i64 0, .slice A 0 c], .int .i64 0, .int .i64 3])] (by kernel_rfl) (by kernel_rfl) (by intro p hp; simp only [List.mem_cons, List.not_mem_nil, or_false] at hp; subst hp; assumption)]; exact run63_4 A c w) (hK.out _ _ (h.step 4 (by omega) (by omega) _ (Below.refl _ _) ⟨A, c, rfl⟩))
theorem step63_5  (h : Inv63 B D w0 R52 l a w) (hl : l.size = 11) (he : ∀ e ∈ (op63 5).after, Region.binds .any e = true → l.getD e.on false = true) (K : Act → World → Prop) (hK : Shut (∀ a' w', Inv63 B D w0 R52 (l.setIfInBounds 5 true) a' w' → K a' w')) : if Region.wanted (op63 5) (yielded (opsOf Try.f5 63) a.tmps) = true then Oper.wp Try.prog (op63 5) a w K Q else K (a.put (op63 5).dst undef) w := by
  obtain ⟨A, c, d3⟩ : ∃ (A : Option Addr) (c : Nat), a.tmps.getD 376 undef = .tuple #[.agg #[.int .i64 0, .int .i64 0, .int .i64 0, .slice A 0 c], .int .i64 0, .int .i64 3] := h.val 3 (by omega) (by omega) (he_dep he 3 (by kernel_rfl))
  refine value_ (N := some (slot63 5)) (by kernel_rfl) (by kernel_rfl) (by rw [run_of (op63 5) a [(376, .tuple #[.agg #[.int .i64 0, .int .i64 0, .int .i64 0, .slice A 0 c], .int .i64 0, .int .i64 3])] (by kernel_rfl) (by kernel_rfl) (by intro p hp; simp only [List.mem_cons, List.not_mem_nil, or_false] at hp; subst hp; assumption)]; exact run63_5 A c w) (hK.out _ _ (h.step 5 (by omega) (by omega) _ (Below.refl _ _) rfl))
theorem step63_6  (h : Inv63 B D w0 R52 l a w) (hl : l.size = 11) (he : ∀ e ∈ (op63 6).after, Region.binds .any e = true → l.getD e.on false = true) (K : Act → World → Prop) (hK : Shut (∀ a' w', Inv63 B D w0 R52 (l.setIfInBounds 6 true) a' w' → K a' w')) : if Region.wanted (op63 6) (yielded (opsOf Try.f5 63) a.tmps) = true then Oper.wp Try.prog (op63 6) a w K Q else K (a.put (op63 6).dst undef) w := by
  obtain ⟨A, c, d3⟩ : ∃ (A : Option Addr) (c : Nat), a.tmps.getD 376 undef = .tuple #[.agg #[.int .i64 0, .int .i64 0, .int .i64 0, .slice A 0 c], .int .i64 0, .int .i64 3] := h.val 3 (by omega) (by omega) (he_dep he 3 (by kernel_rfl))
  refine value_ (N := some (slot63 6)) (by kernel_rfl) (by kernel_rfl) (by rw [run_of (op63 6) a [(376, .tuple #[.agg #[.int .i64 0, .int .i64 0, .int .i64 0, .slice A 0 c], .int .i64 0, .int .i64 3])] (by kernel_rfl) (by kernel_rfl) (by intro p hp; simp only [List.mem_cons, List.not_mem_nil, or_false] at hp; subst hp; assumption)]; exact run63_6 A c w) (hK.out _ _ (h.step 6 (by omega) (by omega) _ (Below.refl _ _) rfl))
theorem step63_7  (h : Inv63 B D w0 R52 l a w) (hl : l.size = 11) (he : ∀ e ∈ (op63 7).after, Region.binds .any e = true → l.getD e.on false = true) (K : Act → World → Prop) (hK : Shut (∀ a' w', Inv63 B D w0 R52 (l.setIfInBounds 7 true) a' w' → K a' w')) : if Region.wanted (op63 7) (yielded (opsOf Try.f5 63) a.tmps) = true then Oper.wp Try.prog (op63 7) a w K Q else K (a.put (op63 7).dst undef) w := by
  refine value_ (N := some (slot63 7)) (by kernel_rfl) (by kernel_rfl) (by rw [run_of (op63 7) a [] (by kernel_rfl) (by kernel_rfl) (by simp)]; exact run63_7 w) (hK.out _ _ (h.step 7 (by omega) (by omega) _ (below_alloc (Below.refl _ _) _) ⟨w.heap.size, rfl, h.bl.size, fun _ => blk_new _ _⟩))
theorem step63_8 (h : Inv63 B D w0 R52 l a w) (hl : l.size = 11) (he : ∀ e ∈ (op63 8).after, Region.binds .any e = true → l.getD e.on false = true) (K : Act → World → Prop) (hK : Shut (∀ a' w', Inv63 B D w0 R52 (l.setIfInBounds 8 true) a' w' → K a' w')) (h8 : l.getD 8 false = false) : if Region.wanted (op63 8) (yielded (opsOf Try.f5 63) a.tmps) = true then Oper.wp Try.prog (op63 8) a w K Q else K (a.put (op63 8).dst undef) w := by
  obtain ⟨g, d7, hg, hx⟩ : ∃ g, a.tmps.getD 74 undef = .pointer (some ⟨g, 0, none⟩) ∧ w0.heap.size ≤ g ∧ (l.getD 8 false = false → w.heap[g]? = some (.cells zero50 50 (0, 0))) := h.val 7 (by omega) (by omega) (he_dep he 7 (by kernel_rfl))
  obtain ⟨A, c, d4⟩ : ∃ (A : Option Addr) (c : Nat), a.tmps.getD 380 undef = .agg #[.int .i64 0, .int .i64 0, .int .i64 0, .slice A 0 c] := h.val 4 (by omega) (by omega) (he_dep he 4 (by kernel_rfl))
  have l2 := (show l.getD 2 false = true from he_dep he 2 (by kernel_rfl))
  rw [if_pos (by kernel_rfl)]
  refine wp_store_row 50 (.tmp 74) (.tmp 380) (by kernel_rfl) g #[.int .i64 0, .int .i64 0, .int .i64 0, .slice A 0 c] d7 d4 50 zero50 (hx h8) (by kernel_rfl) rfl (by simp [Value.oneCell']) ?_
  have e : (op63 8).dst = none := by kernel_rfl
  rw [e]
  refine hK.out _ _ ⟨h.sz, h.df, h.out, below_setRow h.bl hg _, fun i hi hi8 hl' => ?_⟩
  have hl'' : l.getD i false = true := by
    rw [Array.getD_eq_getD_getElem?, Array.getElem?_setIfInBounds, if_neg (fun e => hi8 e.symm)] at hl'
    rw [Array.getD_eq_getD_getElem?]
    exact hl'
  have hv := h.val i hi hi8 hl''
  show G63 _ _ _ _ i (a.tmps.getD (slot63 i) undef)
  match i, hi8, hv with
  | 0, _, hv => exact hv
  | 1, _, hv => intro h2; rw [set_false h2] at l2; cases l2
  | 2, _, hv => exact hv
  | 3, _, hv => exact hv
  | 4, _, hv => exact hv
  | 5, _, hv => exact hv
  | 6, _, hv => exact hv
  | 7, _, hv => obtain ⟨g', e', h3, h4⟩ := hv; exact ⟨g', e', h3, fun h2 => by
      rw [Array.getD_eq_getD_getElem?, Array.getElem?_setIfInBounds, if_pos rfl, if_pos (by omega)] at h2
      cases h2⟩
  | 8, h, _ => exact absurd rfl h
  | 9, _, hv => exact hv
  | 10, _, hv => exact hv
  | n + 11, _, hv => exact trivial
theorem step63_9  (h : Inv63 B D w0 R52 l a w) (hl : l.size = 11) (he : ∀ e ∈ (op63 9).after, Region.binds .any e = true → l.getD e.on false = true) (K : Act → World → Prop) (hK : Shut (∀ a' w', Inv63 B D w0 R52 (l.setIfInBounds 9 true) a' w' → K a' w')) : if Region.wanted (op63 9) (yielded (opsOf Try.f5 63) a.tmps) = true then Oper.wp Try.prog (op63 9) a w K Q else K (a.put (op63 9).dst undef) w := by
  have d5 : a.tmps.getD 381 undef = .int .i64 0 := h.val 5 (by omega) (by omega) (he_dep he 5 (by kernel_rfl))
  refine value_ (N := some (slot63 9)) (by kernel_rfl) (by kernel_rfl) (by rw [run_of (op63 9) a [(381, .int .i64 0)] (by kernel_rfl) (by kernel_rfl) (by intro p hp; simp only [List.mem_cons, List.not_mem_nil, or_false] at hp; subst hp; assumption)]; exact run63_9 w) (hK.out _ _ (h.step 9 (by omega) (by omega) _ (Below.refl _ _) rfl))
theorem step63_10  (h : Inv63 B D w0 R52 l a w) (hl : l.size = 11) (he : ∀ e ∈ (op63 10).after, Region.binds .any e = true → l.getD e.on false = true) (K : Act → World → Prop) (hK : Shut (∀ a' w', Inv63 B D w0 R52 (l.setIfInBounds 10 true) a' w' → K a' w')) : if Region.wanted (op63 10) (yielded (opsOf Try.f5 63) a.tmps) = true then Oper.wp Try.prog (op63 10) a w K Q else K (a.put (op63 10).dst undef) w := by
  have d6 : a.tmps.getD 382 undef = .int .i64 3 := h.val 6 (by omega) (by omega) (he_dep he 6 (by kernel_rfl))
  refine value_ (N := some (slot63 10)) (by kernel_rfl) (by kernel_rfl) (by rw [run_of (op63 10) a [(382, .int .i64 3)] (by kernel_rfl) (by kernel_rfl) (by intro p hp; simp only [List.mem_cons, List.not_mem_nil, or_false] at hp; subst hp; assumption)]; exact run63_10 w) (hK.out _ _ (h.step 10 (by omega) (by omega) _ (Below.refl _ _) rfl))
end
set_option maxRecDepth 100000
theorem gd_tf {l : Array Bool} {j : Nat} (h : l.getD j true = false) : l.getD j false = false := by
  rw [Array.getD_eq_getD_getElem?] at h ⊢
  cases hh : l[j]? with
  | none => rfl
  | some b => rw [hh] at h; exact h
theorem size63 : (opsOf Try.f5 63).size = 11 := by kernel_rfl
theorem ord63 : ((List.range 11).all fun i => (op63 i).after.all fun e => !Region.binds .any e || decide (e.on < i)) = true := by kernel_rfl
theorem is63 {i : Nat} {o : Oper} (h : (opsOf Try.f5 63)[i]? = some o) : i < 11 ∧ op63 i = o := by
  have h1 := (Array.getElem?_eq_some_iff.1 h).1
  refine ⟨by rw [← size63]; exact h1, ?_⟩
  unfold op63
  rw [Array.getD_eq_getD_getElem?, h]
  rfl
theorem within63 (t : Array Value) (L : List Value) (h1 : t.size = 468) (h2 : L.length = 468) (h : ∀ s, (s < 74 ∨ 76 < s) → (s < 376 ∨ 382 < s) → t.getD s undef = L.toArray.getD s undef) :
    t = (L.take 74 ++ ((List.range 3).map (fun j => t.getD (74 + j) undef) ++ ((L.drop 77).take 299 ++ ((List.range 7).map (fun j => t.getD (376 + j) undef) ++ L.drop 383)))).toArray := by
  apply Array.ext
  · simp; omega
  · intro s hs1 hs2
    have e : t.getD s undef = t[s] := by rw [Array.getD_eq_getD_getElem?, Array.getElem?_eq_getElem hs1]; rfl
    have eL : ∀ q (hq : q < L.length), L.toArray.getD q undef = L[q] := fun q hq => by
      rw [Array.getD_eq_getD_getElem?, List.getElem?_toArray, List.getElem?_eq_getElem hq]
      rfl
    rw [← e, List.getElem_toArray]
    by_cases ha : s < 74
    · rw [List.getElem_append_left (by simp; omega), List.getElem_take, h s (by omega) (by omega), eL]
    rw [List.getElem_append_right (by simp; omega)]
    by_cases hb : s < 77
    · rw [List.getElem_append_left (by simp; omega)]
      simp only [List.getElem_map, List.getElem_range, List.length_take, h2]
      rw [show 74 + (s - min 74 468) = s from by omega]
    rw [List.getElem_append_right (by simp; omega)]
    by_cases hc : s < 376
    · rw [List.getElem_append_left (by simp; omega), List.getElem_take, List.getElem_drop, h s (by omega) (by omega), eL s (by omega)]
      simp only [List.length_take, List.length_map, List.length_range, h2]
      congr 1
      omega
    rw [List.getElem_append_right (by simp; omega)]
    by_cases hd : s < 383
    · rw [List.getElem_append_left (by simp; omega)]
      simp only [List.getElem_map, List.getElem_range, List.length_take, List.length_map, List.length_range, List.length_drop, h2]
      rw [show 376 + (s - min 74 468 - 3 - min 299 (468 - 77)) = s from by omega]
    · rw [List.getElem_append_right (by simp; omega), List.getElem_drop, h s (by omega) (by omega), eL s (by omega)]
      simp only [List.length_take, List.length_map, List.length_range, List.length_drop, h2]
      congr 1
      omega
theorem reg63 {ops : Array Oper} (hops : ops = opsOf Try.f5 63) {L : List Value} {D : List Deferred} {w : World} {Q : Exit → Act → World → Prop} (g52 : Nat) (A3 : Option Addr) (c3 : Nat) (hL : L.length = 468) (h52 : L.getD 52 undef = .pointer (some ⟨g52, 0, none⟩))
    (hX : w.heap[g52]? = some (.cells #[.int .i64 5, .int .i64 9, .int .i64 2, .slice A3 waitN.length c3] 50 (0, 0))) (hk : Kd.C k70 w A3 waitN.length waitN) (hc : waitN.length ≤ c3)
    (hfin : ∀ (x74 x376 x377 x378 x379 x380 x381 x382 : Value) (w' : World), Below w.heap.size w w' →
      Q .normal ⟨(L.take 74 ++ ([x74, .int .i64 0, .int .i64 3] ++ ((L.drop 77).take 299 ++ ([x376, x377, x378, x379, x380, x381, x382] ++ L.drop 383)))).toArray, D⟩ w') :
    (Code.region 63 ops true).wp Try.prog Q ⟨L.toArray, D⟩ w := by
  subst hops
  obtain ⟨R52, hR⟩ : ∃ R52 : Array Value, R52 = #[.int .i64 5, .int .i64 9, .int .i64 2, .slice A3 waitN.length c3] := ⟨_, rfl⟩
  rw [← hR] at hX
  refine region_any (by kernel_rfl) (fun l a w' => Inv63 L.toArray D w R52 l a w') ?_ ?_ ?_ ?_
  · intro i o ho e he hb
    obtain ⟨h1, rfl⟩ := is63 ho
    have h2 := List.all_eq_true.1 ord63 i (List.mem_range.2 h1)
    have h3 := Array.all_eq_true'.1 h2 e he
    rw [hb] at h3
    simpa using h3
  · refine ⟨by simpa using hL, rfl, fun s _ _ => rfl, below_drew1 (Below.refl _ _), fun j hj _ h => ?_⟩
    rw [size63, Array.getD_eq_getD_getElem?, Array.getElem?_eq_getElem (by simpa using hj)] at h
    simp at h
  · intro l a w' i o hl h ho hi he K hK
    rw [size63] at hl
    obtain ⟨h1, rfl⟩ := is63 ho
    have hB52 : L.toArray.getD 52 undef = .pointer (some ⟨g52, 0, none⟩) := by rw [← h52]; simp
    match i, h1 with
    | 0, _ => exact step63_0 hB52 hR hX h hl he K hK
    | 1, _ => exact step63_1 h hl he K hK
    | 2, _ => exact step63_2 hR hk hc h hl he K hK (gd_tf hi)
    | 3, _ => exact step63_3 h hl he K hK
    | 4, _ => exact step63_4 h hl he K hK
    | 5, _ => exact step63_5 h hl he K hK
    | 6, _ => exact step63_6 h hl he K hK
    | 7, _ => exact step63_7 h hl he K hK
    | 8, _ => exact step63_8 h hl he K hK (gd_tf hi)
    | 9, _ => exact step63_9 h hl he K hK
    | 10, _ => exact step63_10 h hl he K hK
  · intro l a w' h hall
    rw [size63] at hall
    obtain ⟨t, d⟩ := a
    have hd : d = D := h.df
    subst hd
    have ht := within63 t L h.sz hL h.out
    have e9 : t.getD 75 undef = .int .i64 0 := h.val 9 (by omega) (by omega) (hall 9 (by omega))
    have e10 : t.getD 76 undef = .int .i64 3 := h.val 10 (by omega) (by omega) (hall 10 (by omega))
    have hh := hfin (t.getD 74 undef) (t.getD 376 undef) (t.getD 377 undef) (t.getD 378 undef) (t.getD 379 undef) (t.getD 380 undef) (t.getD 381 undef) (t.getD 382 undef) w' h.bl
    rw [← e9, ← e10] at hh
    rw [ht]
    exact hh
end Go.Proofs.Ytafnjlgdjhegaaa.Pr
end
