/-
  DERIVED. GIVEN WITH THE SEED: THE CARDS: each row of YthlbdbaanlehhaaDoorRows.lean that lists a variable, with what it lists TIED to the program's text (the seventh form; the later family's looks); each row that meets fmt, with fmt's text TOLD by the authors' own Lean function (tested against real Go, not proved from fmt's source: count such statements apart). THE CARD IS WHAT COUNTS. Prove the row's statement (the work); the ties are given (YthlbdbaanlehhaaDoorTie.lean); close each card by the builder's one call (the guide's Derived/Test/ToyasCard.lean, 'card_holds'). Laid BY PROGRAM, IN A SANDBOX (cutbox-door.mjs). By AI agents, Wed Nov 11 2026. No macro, syntax, notation, axiom, sorry.
-/
import Derived.Test.YthlbdbaanlehhaaDoorRows
import GoSem.ClaimSeven
namespace Go.Proofs.YthlbdbaanlehhaaDoor
namespace Rows

/-- THE TIED CARD OF 'musterlaw31.TableApart'. -/
def tableApartCard : Claim7 := { stood := { row := tableApartRow, standIns := [], harness := (true, "a281b59a0d7009e120307c817bed44ba19e0f0d9cb73d0f822946d1366317ae2"), looks := false }, kinds := [], alts := [], laidByText := true, laidKinds := [.data, .data, .data], laidTests := true, laidLooks := .later }
def TableApartCardSaid : Prop := Claim7.holds Tryd.pinned (.plain (OpenSpec.ofChange tableApartSpec)) tableApartCard

/-- THE TIED CARD OF 'musterlaw31.TableTells'. -/
def tableTellsCard : Claim7 := { stood := { row := tableTellsRow, standIns := [], harness := (true, "a281b59a0d7009e120307c817bed44ba19e0f0d9cb73d0f822946d1366317ae2"), looks := false }, kinds := [], alts := [], laidByText := true, laidKinds := [.data, .data, .data], laidTests := true, laidLooks := .later }
def TableTellsCardSaid : Prop := Claim7.holds Tryd.pinned (.plain (OpenSpec.ofChange tableTellsSpec)) tableTellsCard

/-- THE TIED CARD OF 'musterlaw31.TableWide'. -/
def tableWideCard : Claim7 := { stood := { row := tableWideRow, standIns := [], harness := (true, "a281b59a0d7009e120307c817bed44ba19e0f0d9cb73d0f822946d1366317ae2"), looks := false }, kinds := [], alts := [], laidByText := true, laidKinds := [.data, .data, .data], laidTests := true, laidLooks := .later }
def TableWideCardSaid : Prop := Claim7.holds Tryd.pinned (.plain (OpenSpec.ofChange tableWideSpec)) tableWideCard

/-- THE TIED CARD OF 'musterlaw31.TableFit'. -/
def tableFitCard : Claim7 := { stood := { row := tableFitRow, standIns := [], harness := (true, "a281b59a0d7009e120307c817bed44ba19e0f0d9cb73d0f822946d1366317ae2"), looks := false }, kinds := [], alts := [], laidByText := true, laidKinds := [.data, .data, .data], laidTests := true, laidLooks := .later }
def TableFitCardSaid : Prop := Claim7.holds Tryd.pinned (.plain (OpenSpec.ofChange tableFitSpec)) tableFitCard

/-- THE TIED CARD OF 'musterlaw31.TableLists'. -/
def tableListsCard : Claim7 := { stood := { row := tableListsRow, standIns := [], harness := (true, "a281b59a0d7009e120307c817bed44ba19e0f0d9cb73d0f822946d1366317ae2"), looks := false }, kinds := [], alts := [], laidByText := true, laidKinds := [.data, .data, .data], laidTests := true, laidLooks := .later }
def TableListsCardSaid : Prop := Claim7.holds Tryd.pinned (.plain (OpenSpec.ofChange tableListsSpec)) tableListsCard

/-- THE TIED CARD OF 'musterlaw31.TableNumbers'. -/
def tableNumbersCard : Claim7 := { stood := { row := tableNumbersRow, standIns := [], harness := (true, "a281b59a0d7009e120307c817bed44ba19e0f0d9cb73d0f822946d1366317ae2"), looks := false }, kinds := [], alts := [], laidByText := true, laidKinds := [.data, .data, .data], laidTests := true, laidLooks := .later }
def TableNumbersCardSaid : Prop := Claim7.holds Tryd.pinned (.plain (OpenSpec.ofChange tableNumbersSpec)) tableNumbersCard

/-- THE SECOND FORM's CARD OF 'musterlaw31.TableApart'. -/
def tableApartUptoCard : Claim7 := { stood := { row := tableApartUptoRow, standIns := [], harness := (true, "a281b59a0d7009e120307c817bed44ba19e0f0d9cb73d0f822946d1366317ae2"), looks := false }, kinds := [], alts := [], laidByText := true, laidKinds := [.data, .data, .data], laidTests := true, laidLooks := .later }
def TableApartUptoCardSaid : Prop := Claim7.holds Tryd.pinned (.plain (OpenSpec.upto tableApartSpec)) tableApartUptoCard

/-- THE SECOND FORM's CARD OF 'musterlaw31.TableTells'. -/
def tableTellsUptoCard : Claim7 := { stood := { row := tableTellsUptoRow, standIns := [], harness := (true, "a281b59a0d7009e120307c817bed44ba19e0f0d9cb73d0f822946d1366317ae2"), looks := false }, kinds := [], alts := [], laidByText := true, laidKinds := [.data, .data, .data], laidTests := true, laidLooks := .later }
def TableTellsUptoCardSaid : Prop := Claim7.holds Tryd.pinned (.plain (OpenSpec.upto tableTellsSpec)) tableTellsUptoCard

/-- THE SECOND FORM's CARD OF 'musterlaw31.TableWide'. -/
def tableWideUptoCard : Claim7 := { stood := { row := tableWideUptoRow, standIns := [], harness := (true, "a281b59a0d7009e120307c817bed44ba19e0f0d9cb73d0f822946d1366317ae2"), looks := false }, kinds := [], alts := [], laidByText := true, laidKinds := [.data, .data, .data], laidTests := true, laidLooks := .later }
def TableWideUptoCardSaid : Prop := Claim7.holds Tryd.pinned (.plain (OpenSpec.upto tableWideSpec)) tableWideUptoCard

/-- THE SECOND FORM's CARD OF 'musterlaw31.TableFit'. -/
def tableFitUptoCard : Claim7 := { stood := { row := tableFitUptoRow, standIns := [], harness := (true, "a281b59a0d7009e120307c817bed44ba19e0f0d9cb73d0f822946d1366317ae2"), looks := false }, kinds := [], alts := [], laidByText := true, laidKinds := [.data, .data, .data], laidTests := true, laidLooks := .later }
def TableFitUptoCardSaid : Prop := Claim7.holds Tryd.pinned (.plain (OpenSpec.upto tableFitSpec)) tableFitUptoCard

/-- THE SECOND FORM's CARD OF 'musterlaw31.TableLists'. -/
def tableListsUptoCard : Claim7 := { stood := { row := tableListsUptoRow, standIns := [], harness := (true, "a281b59a0d7009e120307c817bed44ba19e0f0d9cb73d0f822946d1366317ae2"), looks := false }, kinds := [], alts := [], laidByText := true, laidKinds := [.data, .data, .data], laidTests := true, laidLooks := .later }
def TableListsUptoCardSaid : Prop := Claim7.holds Tryd.pinned (.plain (OpenSpec.upto tableListsSpec)) tableListsUptoCard

/-- THE SECOND FORM's CARD OF 'musterlaw31.TableNumbers'. -/
def tableNumbersUptoCard : Claim7 := { stood := { row := tableNumbersUptoRow, standIns := [], harness := (true, "a281b59a0d7009e120307c817bed44ba19e0f0d9cb73d0f822946d1366317ae2"), looks := false }, kinds := [], alts := [], laidByText := true, laidKinds := [.data, .data, .data], laidTests := true, laidLooks := .later }
def TableNumbersUptoCardSaid : Prop := Claim7.holds Tryd.pinned (.plain (OpenSpec.upto tableNumbersSpec)) tableNumbersUptoCard
end Rows
end Go.Proofs.YthlbdbaanlehhaaDoor
