/-
  The chapter's first examples come out as written.
-/
import Derived.Test.YthlbdbaanlehhaaDoorPr9
import Derived.Test.YthlbdbaanlehhaaDoorQ2
namespace Go.Proofs.YthlbdbaanlehhaaDoor.Pr
open Go.RowKit Go.Proofs.YthlbdbaanlehhaaDoorW.PrintWords Go.Proofs.YthlbdbaanlehhaaDoorW.PrintLast Go.Proofs.YthlbdbaanlehhaaDoor
set_option linter.unusedVariables false
theorem aw1 : table_Table.f 9 ([⟨⟨#[73, 68]⟩, 3, true⟩, ⟨⟨#[78, 65, 77, 69]⟩, 4, false⟩] : List S49) [[⟨#[55]⟩, ⟨#[98, 111, 98]⟩]] = some ⟨#[32, 73, 68, 32, 78, 65, 77, 69, 10, 32, 32, 55, 32, 98, 111, 98, 32, 10]⟩ := by kernel_rfl
theorem aw2 : table_Fit.f ⟨#[195, 164, 195, 182, 195, 188]⟩ 2 false = some ⟨#[195, 164, 195, 182]⟩ := by kernel_rfl
theorem aw3 : table_Answer.f 9 0 [7, 8] [] [] = some ⟨#[111, 107, 32, 106, 111, 98, 115, 32, 55, 32, 56]⟩ := by kernel_rfl
theorem awake_ev : Ev (fun k => musterlaw31_awake.f k) true := by
  refine Ev.of musterlaw31_awake.mono (k := 9) ?_
  unfold musterlaw31_awake.f
  rw [aw1]
  simp only [Option.bind_some]
  rw [if_pos (by rw [ByteArray.toList_eq]), aw2]
  simp only [Option.bind_some]
  rw [if_pos (by rw [ByteArray.toList_eq]), aw3]
  simp only [Option.bind_some]
  rw [ByteArray.toList_eq]
  rfl
theorem awake_end : Ev (fun k => (musterlaw31_awake.f k).bind fun t => some t) true := Ev.bind awake_ev (Ev.now true)
theorem wrap_id {x : Int} (h : -9223372036854775808 ≤ x) (h2 : x ≤ 9223372036854775807) : wrap64 x = x := by unfold wrap64; omega
end Go.Proofs.YthlbdbaanlehhaaDoor.Pr
