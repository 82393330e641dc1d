/-
  strings.Join, out of the shelf's contract.
-/
import Derived.Test.YthlbdbaanlehhaaDoorPr0
import Derived.Test.YthlbdbaanlehhaaDoorG
import Derived.Test.YthlbdbaanlehhaaDoorShelf
namespace Go.Proofs.YthlbdbaanlehhaaDoor.Pr
open Go.RowKit Go.Proofs.YthlbdbaanlehhaaDoorW.PrintWords Go.Proofs.YthlbdbaanlehhaaDoorW.PrintLast Go.Proofs.YthlbdbaanlehhaaDoorW.PrintMore Go.Proofs.YthlbdbaanlehhaaDoorG Go.Proofs.YthlbdbaanlehhaaDoor
set_option linter.unusedVariables false
set_option linter.unusedSimpArgs false
def joinB (l : List ByteArray) (sep : ByteArray) : ByteArray := ⟨(Lib.join (l.map (·.data.toList)) sep.data.toList).toArray⟩
def strings_Join.f (l0 : List ByteArray) (a1 : ByteArray) : Option ByteArray := if l0.length ≤ 140737488355328 ∧ (joinB l0 a1).size ≤ 140737488355328 then some (joinB l0 a1) else none
theorem cell_plain {w : World} {a : Addr} {v : Value} (h : w.cell? a = some v) : a = ⟨a.block, a.off, none⟩ := by
  obtain ⟨b, o, s⟩ := a
  cases s with
  | none => rfl
  | some s =>
    unfold World.cell? at h
    dsimp only at h
    split at h
    · simp at h
    · cases h
theorem strings_Join.calls (A0 : Option Addr) (c0 : Nat) (l0 : List ByteArray) (a1 : ByteArray) (r : ByteArray) (w : World) (hr0 : Kd.C Kd.string w A0 l0.length l0) (hc0 : l0.length ≤ c0) (h : strings_Join.f l0 a1 = some r) :
    Calls Tryd.prog 35 #[.slice A0 l0.length c0, .string a1] w fun e w' => e = .returned (.string r) ∧ Below w.heap.size w w' := by
  unfold strings_Join.f at h
  split at h
  · rename_i hc
    cases h
    cases l0 with
    | nil =>
      refine (Tryd.strings_Join_none A0 c0 a1 w).mono ?_
      rintro e w' ⟨rfl, rfl⟩
      exact ⟨rfl, Below.refl _ _⟩
    | cons x l0 =>
      obtain ⟨ad, rfl, hcell⟩ := hr0.2.2 (by simp)
      have hcs : ∀ (j : Nat) y, (x :: l0)[j]? = some y → w.cell? (ad.add j) = some (.string y) := fun j y hy => by
        obtain ⟨c, _, hK, hcc⟩ := hcell j y hy
        have hK' : c = [.string y] := hK
        subst hK'
        have := hcc 0 _ rfl
        simpa [Kd.string, Kd.scalar] using this
      have h0 := hcs 0 x rfl
      have hlt := World.block_lt_of_cell? w _ h0
      have hp := cell_plain h0
      obtain ⟨b, o, sp⟩ := ad
      obtain rfl : sp = none := by
        have := congrArg Addr.spot hp
        exact this
      refine (Tryd.strings_Join b o c0 (x :: l0) a1 w (fun j y hy => by have h2 := hcs j y hy; rw [add_off] at h2; exact h2) hlt hc.1 hc0 ?_).mono ?_
      · have := hc.2
        unfold joinB at this
        simpa [ByteArray.size] using this
      · rintro e w' ⟨rfl, hb⟩
        exact ⟨rfl, hb⟩
  · cases h
end Go.Proofs.YthlbdbaanlehhaaDoor.Pr
