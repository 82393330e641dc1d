/-
  strconv.Itoa of small numbers, out of the shelf's contract: no table is read.
-/
import Derived.Test.YthlbdbaanlehhaaDoorPr0
import Derived.Test.YthlbdbaanlehhaaDoorG
import Derived.Test.YthlbdbaanlehhaaDoorShelf
namespace Go.Proofs.YthlbdbaanlehhaaDoor.Pr
open Go.RowKit Go.Proofs.YthlbdbaanlehhaaDoorW.PrintWords Go.Proofs.YthlbdbaanlehhaaDoorW.PrintLast Go.Proofs.YthlbdbaanlehhaaDoorW.PrintMore Go.Proofs.YthlbdbaanlehhaaDoorG Go.Proofs.YthlbdbaanlehhaaDoor
set_option linter.unusedVariables false
set_option linter.unusedSimpArgs false
def strconv_Itoa.f (a0 : Int) : Option ByteArray := if 0 ≤ a0 ∧ a0 < 100 then some ⟨(Lib.decDigits a0.toNat).toArray⟩ else none
theorem strconv_Itoa.calls (a0 : Int) (r : ByteArray) (w : World) (h : strconv_Itoa.f a0 = some r) : Calls Tryd.prog 28 #[.int .i64 a0] w fun e w' => e = .returned (.string r) ∧ Below w.heap.size w w' := by
  unfold strconv_Itoa.f at h
  split at h
  · rename_i hc
    cases h
    obtain ⟨n, rfl⟩ : ∃ n : Nat, a0 = n := ⟨a0.toNat, by omega⟩
    refine (Tryd.strconv_Itoa_small n (by omega) w).mono ?_
    rintro e w' ⟨rfl, rfl⟩
    exact ⟨rfl, Below.refl _ _⟩
  · cases h
end Go.Proofs.YthlbdbaanlehhaaDoor.Pr
