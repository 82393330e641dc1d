/-
  append(l[:k:k], l[k+1:]...): a list of numbers without one of them; what was read is left alone.
-/
import Derived.Test.YtinpgejkkfpckaaPr0
import Derived.ArgAppend
import Derived.Deep.Upon
namespace Go.Proofs.Ytinpgejkkfpckaa.Pr
open Go.RowKit Go.Proofs.YtinpgejkkfpckaaW.PrintWords Go.Proofs.YtinpgejkkfpckaaW.PrintLast Go.Proofs.YtinpgejkkfpckaaW.PrintMore
set_option linter.unusedVariables false
set_option linter.unusedSimpArgs false
def encL (l : List Int) : List Value := l.map (Value.int .i64)
theorem encL_cell {w : World} {ad : Addr} {n : Nat} {L : List Int} (h : Kd.C (Kd.int .i64) w (some ad) n L) (j : Nat) (u : Value) (hj : (encL L)[j]? = some u) : w.cell? (ad.add j) = some u := by
  simp only [encL, List.getElem?_map, Option.map_eq_some_iff] at hj
  obtain ⟨x, hx, rfl⟩ := hj
  have hn := h.1
  have hlt := (List.getElem?_eq_some_iff.1 hx).1
  obtain ⟨ad', e, hc⟩ := Kd.at_int h (j : Int) (by omega) (by omega)
  cases e
  rw [Int.toNat_natCast] at hc
  rw [hc]
  simp [rd, hx]
theorem encL_one (L : List Int) : ∀ u ∈ encL L, u.oneCell' = true := by
  intro u hu
  obtain ⟨x, _, rfl⟩ := List.mem_map.1 hu
  rfl
theorem run_cut (w : World) (A : Option Addr) (c : Nat) (L : List Int) (hC : Kd.C (Kd.int .i64) w A L.length L) (hc : L.length ≤ c) (hL : L.length ≤ 1000) (k : Nat) (hk : k < L.length) :
    ∃ v1 w1, (Builtin.append_ #[45, 45] 45 #[.slice A k k, .slice (if c = k + 1 then A else A.map (·.add ((k + 1) * 1))) (L.length - (k + 1)) (c - (k + 1))]).run Try.prog w = .ok v1 w1 ∧
      Below w.heap.size w w1 ∧ ∃ A1 c1, (∀ ad1, A1 = some ad1 → (∃ ad, A = some ad ∧ ad.block = ad1.block) ∨ (w.heap.size ≤ ad1.block ∧ ad1.block < w1.heap.size)) ∧ v1 = .slice A1 (L.take k ++ L.drop (k + 1)).length c1 ∧ (L.take k ++ L.drop (k + 1)).length ≤ c1 ∧ Kd.C (Kd.int .i64) w1 A1 (L.take k ++ L.drop (k + 1)).length (L.take k ++ L.drop (k + 1)) := by
  obtain ⟨i0, hi, hzz⟩ := Option.map_eq_some_iff.1 info3
  simp only [Prod.mk.injEq] at hzz
  obtain ⟨hz0, hz1, hz2⟩ := hzz
  have hT := Kd.C_take (m := k) hC (by omega)
  have hD := Kd.C_drop (m := k + 1) hC (by omega) hc
  obtain ⟨ad, rfl, _⟩ := hC.2.2 (by omega)
  have hlen : (L.take k ++ L.drop (k + 1)).length = L.length - 1 := by rw [List.length_append, List.length_take, List.length_drop]; omega
  by_cases hl : k + 1 = L.length
  · have hdr : L.drop (k + 1) = [] := List.drop_eq_nil_of_le (by omega)
    have h0 : L.length - (k + 1) = 0 := by omega
    rw [h0]
    refine ⟨_, _, run_append_nothing w 45 45 45 3 i0 Try.underlying45 hi (some ad) k k (Nat.le_refl _) _ ?_, Below.refl _ _, some ad, k, fun a e => .inl ⟨a, e, rfl⟩, ?_, ?_, ?_⟩
    · by_cases hck : c = k + 1
      · rw [if_pos hck]
        exact Src.ofSlice w Try.underlying45 _ _ _ [] (by simp) (by intro j u h; simp at h) (by intro u h; simp at h)
      · rw [if_neg hck]
        exact Src.ofSlice w Try.underlying45 _ _ _ [] (by simp) (by intro j u h; simp at h) (by intro u h; simp at h)
    · rw [hlen]
      congr 1
      omega
    · omega
    · rw [hdr, List.append_nil]
      exact hT
  · rw [if_neg (show ¬ c = k + 1 by omega)] at *
    simp only [Option.map_some] at hD ⊢
    have hl1 : (L.take k).length = k := by rw [List.length_take]; omega
    have hl2 : (L.drop (k + 1)).length = L.length - (k + 1) := List.length_drop
    obtain ⟨v1, w1, hr, ho, hg⟩ := run_append_arg_grows (P := Try.prog) w 45 45 3 i0 (.int .i64 0) 1 8 Try.underlying45 hi hz0 hz1 hz2 rfl (by decide) ad k k (encL (L.take k)) (by simp [encL]; omega) (encL_cell hT) (ad.add ((k + 1) * 1)) (L.length - (k + 1)) (c - (k + 1)) (encL (L.drop (k + 1))) (by simp [encL]) (encL_cell hD) (by omega) (by simp [maxLen]; omega) (by omega)
    have hown : w1.ownsRow w.heap.size 3 1 v1 (L.take k ++ L.drop (k + 1)).length (encs (Value.int .i64) (L.take k ++ L.drop (k + 1))) := by
      have e : encL (L.take k) ++ encL (L.drop (k + 1)) = encs (Value.int .i64) (L.take k ++ L.drop (k + 1)) := by simp [encL, encs]
      rw [← e, hlen]
      have : k + (L.length - (k + 1)) = L.length - 1 := by omega
      rw [← this]
      exact ho
    have hR : (Kd.int .i64).R 3 w1 w.heap.size (fun _ => True) v1 (L.take k ++ L.drop (k + 1)) := Kd.R_of_own hown (fun _ _ => trivial)
    obtain ⟨A1, c1, e1, hc1, hC1⟩ := Kd.R_reads hR
    refine ⟨v1, w1, hr, ⟨hg.os, hg.tape, hg.output, hg.size, fun b hb => hg.block b (by omega) (by simp)⟩, A1, c1, ?_, e1, hc1, hC1⟩
    rintro ad1 rfl
    subst e1
    exact .inr ⟨own_base hown _ rfl, own_lt hown _ rfl⟩
theorem cut_kk (A : Option Addr) (n c k : Nat) (h : k ≤ c) : ∀ W : World, (Instr.slice 45 (.slice A n c) none (some (.int .i64 (k : Int))) (some (.int .i64 (k : Int)))).run Try.prog W = .ok (.slice A k k) W := by
  intro W
  obtain ⟨i0, hi, hzz⟩ := Option.map_eq_some_iff.1 info3
  have hel : Try.prog.elem 45 = 3 := by simp [Program.elem, Try.underlying45]
  have hu : Try.prog.underlying 45 = some (.slice (Try.prog.elem 45)) := by rw [hel]; exact Try.underlying45
  have ha : (A.map fun x => x.add 0) = A := by cases A <;> simp [Addr.add]
  rw [run_slice_hm W 45 A n c hu .i64 .i64 (k : Int) (k : Int) (by omega) (by omega) (by omega), hel]
  simp [sizeOf, typeInfo, hi, sliced, Result.andThen, ha]
theorem cut_after (A : Option Addr) (n c k : Nat) (h : k + 1 ≤ n) : ∀ W : World, (Instr.slice 45 (.slice A n c) (some (.int .i64 ((k : Int) + 1))) none none).run Try.prog W = .ok (.slice (if c = k + 1 then A else A.map (·.add ((k + 1) * 1))) (n - (k + 1)) (c - (k + 1))) W := by
  obtain ⟨i0, hi, hzz⟩ := Option.map_eq_some_iff.1 info3
  simp only [Prod.mk.injEq] at hzz
  have := cut_from (P := Try.prog) 45 3 .i64 Try.underlying45 hi 1 hzz.2.1 A n c ((k : Int) + 1) (by omega) (by omega)
  have e : ((k : Int) + 1).toNat = k + 1 := by omega
  rw [e] at this
  exact this
end Go.Proofs.Ytinpgejkkfpckaa.Pr
