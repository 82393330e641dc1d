/-
  slices.Insert of one whole number into a row of the call's own.
-/
import Derived.Test.YtinpgejkkfpckaaHIns3
namespace Go.Proofs.Ytinpgejkkfpckaa.Pr
open Go.RowKit Go.Proofs.YtinpgejkkfpckaaW.PrintWords Go.Proofs.YtinpgejkkfpckaaW.PrintLast Go.Proofs.YtinpgejkkfpckaaW.PrintMore Go.Proofs.YtinpgejkkfpckaaG
set_option linter.unusedVariables false
set_option linter.unusedSimpArgs false
theorem encs_map {α : Type} (enc : α → Value) (l : List α) : encs enc l = l.map enc := by
  first | rfl | (induction l with | nil => rfl | cons x l ih => simp [encs])
theorem ins3_R (w : World) (base i : Nat) (ok : Nat → Prop) (v : Value) (xs : List Int) (y : Int) (h : Kd.R (Kd.int .i64) 3 w base ok v xs) (hok : ∀ k, w.heap.size ≤ k → ok k) (hB : base ≤ w.heap.size) (hi : i ≤ xs.length) (hl : xs.length ≤ 5000) :
    Calls Try.prog 37 #[v, .int .i64 i, .slice (some ⟨w.heap.size, 0, none⟩) 1 1] (w.alloc (.cells #[.int .i64 y] 3)) fun e w' => ∃ v', e = .returned v' ∧ Kd.R (Kd.int .i64) 3 w' base ok v' (xs.take i ++ [y] ++ xs.drop i) ∧ (w.alloc (.cells #[.int .i64 y] 3)).grownBy w' v.ownBlock ∧ (v'.ownBlock = v.ownBlock ∨ ∃ b, v'.ownBlock = some b ∧ w.heap.size < b) := by
  have h1 := Kd.R_alloc h (.cells #[.int .i64 y] 3)
  have ho := Kd.own_of_R h1
  have hone : ∀ u ∈ encs (Value.int .i64) xs, u.oneCell' = true := by
    intro u hu
    rw [encs_map] at hu
    obtain ⟨a, _, rfl⟩ := List.mem_map.1 hu
    rfl
  have hsz : (w.alloc (.cells #[.int .i64 y] 3)).heap.size = w.heap.size + 1 := by simp
  refine (Ins3.ins_any (w.alloc (.cells #[.int .i64 y] 3)) base xs.length i v (encs (Value.int .i64) xs) [.int .i64 y] ho hi ⟨w.heap.size, 0, none⟩ 1 rfl
    (fun j u hj => by
      rw [add_off, Nat.zero_add, World.cell?_alloc_new]
      simpa using hj)
    hone (by intro u hu; simp at hu; rw [hu]; rfl) (by omega) (by omega)
    (fun k hk => by
      have := Kd.R_lt h k hk
      show w.heap.size ≠ k
      omega) 3 1 (by unfold World.shape?; rw [Go.heap_alloc_new]; rfl) (World.frozen?_alloc_at _ _ _ _ rfl) (World.frozen?_alloc_at _ _ _ _ rfl)).mono ?_
  rintro e w' ⟨v', rfl, ho', hg, hat⟩
  refine ⟨v', rfl, Kd.R_of_own ?_ (fun k hk => ?_), hg, ?_⟩
  · have e1 : encs (Value.int .i64) (xs.take i ++ [y] ++ xs.drop i) = (encs (Value.int .i64) xs).take i ++ [.int .i64 y] ++ (encs (Value.int .i64) xs).drop i := by
      simp [encs_map, List.map_take, List.map_drop]
    have e2 : (xs.take i ++ [y] ++ xs.drop i).length = xs.length + 1 := by simp; omega
    rw [e1, e2]
    exact ho'
  · rcases hat with ha | ⟨b, ha, hb⟩
    · exact h.1 k (ha ▸ hk)
    · rw [ha] at hk
      injection hk with hk
      exact hok k (by omega)
  · rcases hat with ha | ⟨b, ha, hb⟩
    · exact .inl ha
    · exact .inr ⟨b, ha, by omega⟩
end Go.Proofs.Ytinpgejkkfpckaa.Pr
