/-
  slices.Insert of one kept reply into a row of kept replies of the call's own, rows and all.
-/
import Derived.Test.YtafnjlgdjhegaaaHLook
import Derived.Test.YtafnjlgdjhegaaaHIns46
namespace Go.Proofs.Ytafnjlgdjhegaaa.Pr
open Go.RowKit Go.Proofs.YtafnjlgdjhegaaaW.PrintWords Go.Proofs.YtafnjlgdjhegaaaW.PrintLast Go.Proofs.YtafnjlgdjhegaaaW.PrintMore Go.Proofs.YtafnjlgdjhegaaaG
set_option linter.unusedVariables false
set_option linter.unusedSimpArgs false
theorem ins46_R (w4 : World) (base N i : Nat) (oki : Nat → Prop) (v s : Value) (xs : List S46) (y : S46) (hold : Kd.R k46 46 w4 base (fun k => oki k ∧ k < N) v xs) (hs : Kd.R (Kd.int .u8) 5 w4 base (fun k => N ≤ k) s y.f1) (hN : N ≤ w4.heap.size) (hB : base ≤ w4.heap.size) (hi : i ≤ xs.length) (hl : xs.length ≤ 1000) :
    Calls Try.prog 46 #[v, .int .i64 i, .slice (some ⟨w4.heap.size, 0, none⟩) 1 1] (w4.alloc (.cells #[.int .i64 y.f0, s] 46)) fun e w' => ∃ v', e = .returned v' ∧ Kd.R k46 46 w' base (fun k => oki k ∨ N ≤ k) v' (xs.take i ++ [y] ++ xs.drop i) ∧ (w4.alloc (.cells #[.int .i64 y.f0, s] 46)).grownBy w' v.ownBlock := by
  obtain ⟨ps, rfl, hone, h0, ho, hr⟩ := R46_open (Kd.R_alloc hold (.cells #[.int .i64 y.f0, s] 46))
  have hsz : w4.heap.size < (w4.alloc (.cells #[.int .i64 y.f0, s] 46)).heap.size := by simp
  rw [List.length_map] at hi hl
  obtain ⟨As, cs, hsv⟩ := Kd.R_slice hs
  have hvlt : ∀ k, v.ownBlock = some k → k < N := fun k hk => (h0 k hk).2
  refine (Ins46.ins_any (w4.alloc (.cells #[.int .i64 y.f0, s] 46)) base ps.length i v (cells46 ps) [.int .i64 y.f0, s] ho hi ⟨w4.heap.size, 0, none⟩ 1 rfl
    (fun j u hj => by
      rw [add_off, Nat.zero_add, World.cell?_alloc_new]
      simpa using hj)
    (cells46_one hone) (by intro u hu; simp at hu; rcases hu with rfl | rfl; rfl; rw [hsv]; rfl) (by omega) (by omega)
    (fun k hk => by
      have := hvlt k hk
      show w4.heap.size ≠ k
      omega) 46 2 (by unfold World.shape?; rw [Go.heap_alloc_new]; rfl) (World.frozen?_alloc_at _ _ _ _ rfl) (World.frozen?_alloc_at _ _ _ _ rfl)).mono ?_
  rintro e w' ⟨v', rfl, ho', hg, hat⟩
  refine ⟨v', rfl, ?_, hg⟩
  have e2 : (ps.map Prod.fst).take i ++ [y] ++ (ps.map Prod.fst).drop i = (ps.take i ++ [(y, s)] ++ ps.drop i).map Prod.fst := by simp [List.map_take, List.map_drop]
  rw [cells46_take, cells46_drop, show [Value.int .i64 y.f0, s] = cells46 [(y, s)] from rfl, ← cells46_append, ← cells46_append] at ho'
  rw [e2]
  have hll : (ps.take i ++ [(y, s)] ++ ps.drop i).length = ps.length + 1 := by simp; omega
  have hvn : ∀ k, v'.ownBlock = some k → (v.ownBlock = some k ∨ w4.heap.size < k) := fun k hk => by
    rcases hat with ha | ⟨b, ha, hb⟩
    · exact .inl (ha ▸ hk)
    · rw [ha] at hk
      injection hk with hk
      exact .inr (by omega)
  refine R46_shut (fun k hk => ?_) (by rw [hll]; exact ho') fun p hp => ?_
  · rcases hvn k hk with h | h
    · exact .inl (h0 k h).1
    · exact .inr (by omega)
  · have hcase : p ∈ ps ∨ p = (y, s) := by
      rcases List.mem_append.1 hp with hp | hp
      · rcases List.mem_append.1 hp with hp | hp
        · exact .inl (List.mem_of_mem_take hp)
        · exact .inr (by simpa using hp)
      · exact .inl (List.mem_of_mem_drop hp)
    rcases hcase with hp | rfl
    · have h2 := Kd.R_bound (hr p hp)
      have h3 := Kd.R_grown h2 hg (fun k hk => hk.1.2)
      refine Kd.R_mono h3 fun k hk => ⟨.inl hk.1.1.1, fun e => ?_⟩
      rcases hvn k e.symm with h | h
      · exact hk.1.2 h.symm
      · have := hk.1.1.2
        omega
    · have h2 := Kd.R_bound (Kd.R_alloc hs (.cells #[.int .i64 y.f0, s] 46))
      have h4 : Kd.R (Kd.int .u8) 5 (w4.alloc (.cells #[.int .i64 y.f0, s] 46)) base (fun k => N ≤ k ∧ k < w4.heap.size) s y.f1 := Kd.R_mono (Kd.R_alloc (Kd.R_bound hs) _) fun k hk => ⟨hk.1, hk.2.2.1⟩
      have h3 := Kd.R_grown h4 hg (fun k hk e => by have := hvlt k e.symm; omega)
      refine Kd.R_mono h3 fun k hk => ⟨.inr hk.1, fun e => ?_⟩
      rcases hvn k e.symm with h | h
      · have := hvlt k h
        omega
      · omega
end Go.Proofs.Ytafnjlgdjhegaaa.Pr
