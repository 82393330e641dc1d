/-
  Two stores beside one another; a Take on the one.
-/
import Derived.Test.YtinpgejkkfpckaaHTold
namespace Go.Proofs.Ytinpgejkkfpckaa.Pr
open Go.RowKit Go.Proofs.YtinpgejkkfpckaaW.PrintWords Go.Proofs.YtinpgejkkfpckaaW.PrintLast Go.Proofs.YtinpgejkkfpckaaW.PrintMore Go.Proofs.YtinpgejkkfpckaaG
set_option linter.unusedVariables false
set_option linter.unusedSimpArgs false
/-- Two stores and an array of numbers, none in the memory of another. -/
def Two (w : World) (base s : Nat) (P : List Past) (t : Nat) (Q : List Past) (A : Option Addr) : Prop :=
  ∃ okS okT : Nat → Prop, (∀ k, okS k → base ≤ k ∧ k < w.heap.size) ∧ (∀ k, okT k → base ≤ k ∧ k < w.heap.size) ∧ (∀ k, okS k → ¬ okT k) ∧ St w base okS s P (idsP P) ∧ St w base okT t Q (idsP Q) ∧ ∀ ad, A = some ad → ¬ okS ad.block ∧ ¬ okT ad.block ∧ ad.block < w.heap.size
theorem add_blk (ad : Addr) (n : Nat) : (ad.add n).block = ad.block := by unfold Addr.add; repeat' (first | rfl | split)
theorem ints_move {w w' : World} {A : Option Addr} {L : List Int} (h : Kd.C (Kd.int .i64) w A L.length L) (hm : ∀ ad, A = some ad → w'.heap[ad.block]? = w.heap[ad.block]?) : Kd.C (Kd.int .i64) w' A L.length L := by
  refine ⟨h.1, h.2.1, fun hp => ?_⟩
  obtain ⟨ad, e, hc⟩ := h.2.2 hp
  refine ⟨ad, e, fun j p hj => ?_⟩
  obtain ⟨c, h1, h2, h3⟩ := hc j p hj
  exact ⟨c, h1, h2, fun i u hu => (World.cell?_of_block (a := ad.add (j * (Kd.int .i64).sz + i)) (by rw [add_blk]; exact hm ad e)).trans (h3 i u hu)⟩
section
variable {w w' : World} {base s t : Nat} {P Q : List Past} {A A' : Option Addr}
theorem Two.swap (h : Two w base s P t Q A) : Two w base t Q s P A := by
  obtain ⟨a, b, h1, h2, h3, h4, h5, h6⟩ := h
  exact ⟨b, a, h2, h1, fun k hk hh => h3 k hh hk, h5, h4, fun ad e => ⟨(h6 ad e).2.1, (h6 ad e).1, (h6 ad e).2.2⟩⟩
theorem Two.arr (h : Two w base s P t Q A) (hb : Below w.heap.size w w') (hA : ∀ ad, A' = some ad → (∃ ad', A = some ad' ∧ ad'.block = ad.block) ∨ (w.heap.size ≤ ad.block ∧ ad.block < w'.heap.size)) : Two w' base s P t Q A' := by
  obtain ⟨a, b, h1, h2, h3, h4, h5, h6⟩ := h
  have hz := hb.size
  refine ⟨a, b, fun k hk => ⟨(h1 k hk).1, by have := (h1 k hk).2; omega⟩, fun k hk => ⟨(h2 k hk).1, by have := (h2 k hk).2; omega⟩, h3, h4.below hb, h5.below hb, fun ad e => ?_⟩
  rcases hA ad e with ⟨ad', e', eb⟩ | ⟨g1, g2⟩
  · have := h6 ad' e'
    rw [eb] at this
    exact ⟨this.1, this.2.1, by omega⟩
  · exact ⟨fun hk => by have := (h1 _ hk).2; omega, fun hk => by have := (h2 _ hk).2; omega, g2⟩
theorem Two.below (h : Two w base s P t Q A) (hb : Below w.heap.size w w') : Two w' base s P t Q A := h.arr hb fun ad e => .inl ⟨ad, e, rfl⟩
theorem Two.first (h : Two w base s P t Q A) : ∃ ok, St w base ok s P (idsP P) := by
  obtain ⟨a, b, h1, h2, h3, h4, h5⟩ := h
  exact ⟨a, h4⟩
theorem Two.take (h : Two w base s P t Q A) (hb : base ≤ w.heap.size) (hl : (idsP P).length ≤ 4096) {p : Past} {b : Bool} {P' : List Past} (ht : takeT P (idsP P) p = (b, 0, P', idsP P')) :
    Calls Try.prog 17 #[.pointer (some ⟨s, 0, none⟩), pastV p] w fun e w' => e = .returned (.tuple #[.bool b, .int .i64 0]) ∧ Two w' base s P' t Q A ∧ w.heap.size ≤ w'.heap.size ∧ (∀ w0, Below base w0 w → Below base w0 w') ∧ ∀ L, Kd.C (Kd.int .i64) w A L.length L → Kd.C (Kd.int .i64) w' A L.length L := by
  obtain ⟨a, c, h1, h2, h3, h4, h5, h6⟩ := h
  refine (take_st (ok := fun k => a k ∨ w.heap.size ≤ k) (h4.mono fun k hk => .inl hk) (fun k hk => .inr hk) hb (idsP_rise P) hl p).mono ?_
  rintro e w' ⟨rfl, hS, hO⟩
  rw [ht] at hS ⊢
  have hz := hO.size
  have hoff : ∀ k, c k → ¬ (a k ∨ w.heap.size ≤ k) := fun k hk hh => hh.elim (fun hh => h3 k hh hk) (fun hh => by have := (h2 k hk).2; omega)
  have hof2 : ∀ ad, A = some ad → ¬ (a ad.block ∨ w.heap.size ≤ ad.block) := fun ad e hh => hh.elim (h6 ad e).1 (fun hh => by have := (h6 ad e).2.2; omega)
  refine ⟨rfl, ⟨fun k => (a k ∨ w.heap.size ≤ k) ∧ k < w'.heap.size, fun k => c k ∧ k < w.heap.size, fun k hk => ⟨?_, hk.2⟩, fun k hk => ⟨(h2 k hk.1).1, by omega⟩, fun k hk hh => hoff k hh.1 hk.1, hS.bound, h5.off hO hoff, fun ad e => ⟨fun hh => hof2 ad e hh.1, fun hh => (h6 ad e).2.1 hh.1, by have := (h6 ad e).2.2; omega⟩⟩, hz, fun w0 hw0 => hO.to_below (fun k hk => ?_) hw0 hb, fun L hL => ints_move hL fun ad e => hO.block _ (h6 ad e).2.2 (hof2 ad e)⟩
  · rcases hk.1 with hk | hk
    · exact (h1 k hk).1
    · omega
  · rcases hk with hk | hk
    · exact (h1 k hk).1
    · omega
/-- Two new stores. -/
theorem two_new (w : World) (s : Nat) (h : St w base (fun k => base ≤ k ∧ k < w.heap.size) s [] []) (hb : base ≤ w.heap.size) :
    Calls Try.prog 15 #[] w fun e w' => ∃ t, e = .returned (.pointer (some ⟨t, 0, none⟩)) ∧ Two w' base s [] t [] none ∧ w.heap.size ≤ w'.heap.size ∧ Below w.heap.size w w' := by
  refine (new_st w (fun k => w.heap.size ≤ k) (fun _ h => h)).mono ?_
  rintro e w' ⟨t, rfl, ht, hS, hB⟩
  have hz := hB.size
  exact ⟨t, rfl, ⟨_, fun k => w.heap.size ≤ k ∧ k < w'.heap.size, fun k hk => ⟨hk.1, by omega⟩, fun k hk => ⟨by omega, hk.2⟩, fun k hk hh => by omega, h.below hB, (hS.lower hb).bound, fun ad e => by cases e⟩, hz, hB⟩
end
end Go.Proofs.Ytinpgejkkfpckaa.Pr
