/-
  An element put into a row whose elements lie apart: the others stay apart.
-/
import Derived.Test.YtafnjlgdjhegaaaPr0
import Derived.Test.YtafnjlgdjhegaaaG
namespace Go.Proofs.Ytafnjlgdjhegaaa.Pr
open Go.RowKit Go.Proofs.YtafnjlgdjhegaaaW.PrintWords Go.Proofs.YtafnjlgdjhegaaaW.PrintLast Go.Proofs.YtafnjlgdjhegaaaW.PrintMore Go.Proofs.YtafnjlgdjhegaaaG
set_option linter.unusedVariables false
set_option linter.unusedSimpArgs false
theorem ins_getElem? {α : Type} (xs : List α) (x : α) (i j : Nat) (hi : i ≤ xs.length) : (xs.take i ++ [x] ++ xs.drop i)[j]? = if j < i then xs[j]? else if j = i then some x else xs[j - 1]? := by
  rw [List.append_assoc, List.getElem?_append, List.length_take, Nat.min_eq_left hi]
  by_cases h1 : j < i
  · rw [if_pos h1, if_pos h1, List.getElem?_take, if_pos h1]
  · rw [if_neg h1, if_neg h1]
    by_cases h2 : j = i
    · subst h2
      rw [if_pos rfl, Nat.sub_self]
      rfl
    · rw [if_neg h2]
      obtain ⟨k, rfl⟩ : ∃ k, j = i + 1 + k := ⟨j - i - 1, by omega⟩
      rw [show i + 1 + k - i = k + 1 by omega]
      show (xs.drop i)[k]? = _
      rw [List.getElem?_drop]
      congr 1
      omega
theorem cells_ins {inner cs : List Value} {n i j z : Nat} (hl : inner.length = n * z) (hc : cs.length = z) (hi : i ≤ n) (hj : j ≤ n) :
    ((inner.take (i * z) ++ cs ++ inner.drop (i * z)).drop (j * z)).take z = if j < i then (inner.drop (j * z)).take z else if j = i then cs else (inner.drop ((j - 1) * z)).take z := by
  have h1 : i * z ≤ n * z := Nat.mul_le_mul_right _ hi
  have hil : (inner.take (i * z)).length = i * z := by rw [List.length_take, hl]; omega
  by_cases c1 : j < i
  · rw [if_pos c1]
    have h2 : (j + 1) * z ≤ i * z := Nat.mul_le_mul_right _ (by omega)
    rw [Nat.add_mul, Nat.one_mul] at h2
    rw [List.append_assoc, List.drop_append_of_le_length (by omega), List.take_append_of_le_length (by rw [List.length_drop]; omega), List.drop_take, List.take_take, Nat.min_eq_left (by omega)]
  · rw [if_neg c1]
    by_cases c2 : j = i
    · subst c2
      rw [if_pos rfl, List.append_assoc, List.drop_append, hil, Nat.sub_self, List.drop_of_length_le (by omega), List.nil_append, List.drop_zero, List.take_append_of_le_length (by omega), List.take_of_length_le (by omega)]
    · rw [if_neg c2]
      obtain ⟨k, rfl⟩ : ∃ k, j = i + 1 + k := ⟨j - i - 1, by omega⟩
      have h3 : (i + 1 + k) * z = i * z + z + k * z := by rw [Nat.add_mul, Nat.add_mul, Nat.one_mul]
      have h4 : (i + 1 + k - 1) * z = i * z + k * z := by rw [show i + 1 + k - 1 = i + k by omega, Nat.add_mul]
      rw [h3, h4, List.drop_append, List.drop_of_length_le (by rw [List.length_append]; omega), List.nil_append, List.length_append, hil, hc, List.drop_drop]
      congr 2
      omega
theorem S_insert {α : Type} {d : Kd α} {e base i : Nat} {w w1 : World} {ok : Nat → Prop} {v v1 : Value} {xs : List α} {inner cs : List Value} {f : Nat → Nat} {x : α}
    (h0 : ∀ k, v.ownBlock = some k → ok k) (ho : w.ownsRow base e d.sz v xs.length inner) (hr : Reps ((Kd.tag f d).M w base (fun k => ok k ∧ some k ≠ v.ownBlock)) d.sz xs.zipIdx inner)
    (hi : i ≤ xs.length) (hM : d.M w1 base (fun _ => False) x cs) (hg : w.grownBy w1 v.ownBlock) (hat : v1.ownBlock = v.ownBlock ∨ ∃ b, v1.ownBlock = some b ∧ w.heap.size ≤ b) (hokn : ∀ k, w.heap.size ≤ k → ok k)
    (ho1 : w1.ownsRow base e d.sz v1 (xs.length + 1) (inner.take (i * d.sz) ++ cs ++ inner.drop (i * d.sz))) : Kd.S d e w1 base ok v1 (xs.take i ++ [x] ++ xs.drop i) := by
  have hlen : inner.length = xs.length * d.sz := by have := hr.1; rwa [List.length_zipIdx] at this
  have hcl : cs.length = d.sz := d.K_len (d.K_of_M hM)
  have hll : (xs.take i ++ [x] ++ xs.drop i).length = xs.length + 1 := by simp; omega
  -- an elder element, in the new world
  have old : ∀ j p, xs[j]? = some p → d.M w1 base (fun k => (ok k ∧ some k ≠ v1.ownBlock) ∧ f k = j) p ((inner.drop (j * d.sz)).take d.sz) := by
    intro j p hp
    have h2 := hr.2 j (p, j) (Kd.zip_at hp)
    have h3 : d.M w1 base (fun k => (ok k ∧ some k ≠ v.ownBlock) ∧ f k = j) p ((inner.drop (j * d.sz)).take d.sz) := Kd.M_grown h2 hg (fun k hk => hk.1.2)
    have h4 : d.M w base _ p ((inner.drop (j * d.sz)).take d.sz) := d.M_bound h2
    refine d.M_mono (fun k hk => ?_) (d.M_move (w1 := w1) (fun k hk => hg.block k hk.2.2.1 hk.1.1.2) h4)
    obtain ⟨⟨⟨k1, k2⟩, k3⟩, _, k4, _⟩ := hk
    refine ⟨⟨k1, fun e => ?_⟩, k3⟩
    rcases hat with ha | ⟨b, ha, hb⟩
    · exact k2 (e.trans ha)
    · rw [ha] at e
      injection e with e
      omega
  refine ⟨fun k => if i ≤ f k then f k + 1 else f k, fun k hk => ?_, inner.take (i * d.sz) ++ cs ++ inner.drop (i * d.sz), ?_, ?_, fun j p hp => ?_⟩
  · rcases hat with ha | ⟨b, ha, hb⟩
    · exact h0 k (ha ▸ hk)
    · rw [ha] at hk
      injection hk with hk
      exact hokn k (by omega)
  · rw [List.length_zipIdx, hll]
    exact ho1
  · rw [List.length_zipIdx, hll]
    exact ho1.1
  · rw [List.getElem?_zipIdx, Nat.zero_add] at hp
    obtain ⟨q, hq, rfl⟩ := Option.map_eq_some_iff.1 hp
    have hjl : j < xs.length + 1 := by
      have := (List.getElem?_eq_some_iff.1 hq).1
      rwa [hll] at this
    rw [ins_getElem? xs x i j hi] at hq
    show d.M w1 base _ q (((inner.take (i * d.sz) ++ cs ++ inner.drop (i * d.sz)).drop (j * d.sz)).take d.sz)
    rw [cells_ins hlen hcl hi (by omega)]
    by_cases c1 : j < i
    · rw [if_pos c1] at hq ⊢
      exact d.M_mono (fun k hk => ⟨hk.1, by show (if i ≤ f k then _ else _) = j; have := hk.2; rw [if_neg (by omega)]; exact this⟩) (old j q hq)
    · rw [if_neg c1] at hq ⊢
      by_cases c2 : j = i
      · rw [if_pos c2] at hq ⊢
        injection hq with hq
        subst hq
        exact d.M_mono (fun k hk => hk.elim) hM
      · rw [if_neg c2] at hq ⊢
        exact d.M_mono (fun k hk => ⟨hk.1, by show (if i ≤ f k then _ else _) = j; have := hk.2; rw [if_pos (by omega)]; omega⟩) (old (j - 1) q hq)
end Go.Proofs.Ytafnjlgdjhegaaa.Pr
