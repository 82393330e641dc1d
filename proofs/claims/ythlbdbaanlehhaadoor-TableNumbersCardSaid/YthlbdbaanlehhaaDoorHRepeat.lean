/-
  strings.Repeat of a blank, out of the shelf's contract.
-/
import Derived.Test.YthlbdbaanlehhaaDoorPr0
import Derived.Test.YthlbdbaanlehhaaDoorG
import Derived.Test.YthlbdbaanlehhaaDoorShelf
namespace Go.Proofs.YthlbdbaanlehhaaDoor.Pr
open Go.RowKit Go.Proofs.YthlbdbaanlehhaaDoorW.PrintWords Go.Proofs.YthlbdbaanlehhaaDoorG Go.Proofs.YthlbdbaanlehhaaDoor
def blanks (c : Nat) : ByteArray := ⟨(List.replicate c (32 : UInt8)).toArray⟩
theorem blanks_size (c : Nat) : (blanks c).size = c := by unfold blanks; simp [ByteArray.size]
theorem repeatL_blank (c : Nat) : Lib.repeatL [(32 : UInt8)] c = List.replicate c 32 := by
  induction c with
  | zero => rfl
  | succ c ih => rw [Lib.repeatL, ih]; rfl
theorem repeat_any (c : Nat) (w : World) (hc : c ≤ 140737488355328) :
    Calls Tryd.prog 31 #[.string ⟨#[32]⟩, .int .i64 (c : Int)] w fun e w' => e = .returned (.string (blanks c)) ∧ Below w.heap.size w w' := by
  have h := Tryd.strings_Repeat ⟨#[32]⟩ c w (by omega) (by simp [ByteArray.size]; omega)
  have e : Lib.repeatL (⟨#[32]⟩ : ByteArray).data.toList c = List.replicate c 32 := repeatL_blank c
  rw [e] at h
  exact h
end Go.Proofs.YthlbdbaanlehhaaDoor.Pr
