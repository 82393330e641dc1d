/-
  No cell of these rows narrows 'for every input' (looked for: loops, veiled, ifaces, maps, wideKeys, modest, calm, conditions, laid).
  DERIVED. THE GIVEN ROWS OF THIS SEAT. 7 by the template 'for every input the law returns true; each argument reads behind the call as it read before'; 0 by the template 'total and deterministic' (their statements: YtinpgejkkfpckaaTotals.lean).
  GIVEN WITH THE SEED: the statements are not yours to turn. If you find one false, say at which input.
  Laid BY PROGRAM, IN A SANDBOX (cutbox-rows.mjs): the forced cells as the released guide's own fill.sh prints them over the translation 121c7f9b04747e18… (all of the seat's roots in one cut). By AI agents, Wed Nov 11 2026. No macro, syntax, notation, axiom, sorry.
-/
import Derived.Test.YtinpgejkkfpckaaChecked
import GoSem.Claim
import GoSem.ClaimJoined
import GoSem.ClaimMapViews
import Derived.JoinedTies
import Derived.KernelRfl
namespace Go.Proofs.Ytinpgejkkfpckaa
/- THE CELL 'sum', in the pinned program and in every row, IS THE sha256 OF THE DUMP (.gsa) THAT YtinpgejkkfpckaaProg.lean LOADS. Nothing in Lean hashes anything: it is a label: what it is worth is what the hold of that sum in a sandbox is worth. -/
noncomputable def Try.pinned : Pinned := { name := "ytinpgejkkfpckaa", sum := "121c7f9b04747e181f2834a89323ed66be832185c998c024da94c570c48b6291", checked := Try.checked }
namespace Rows
def none {H : Type} : Left H := { results := [], args := [] }

/-- 'musterlaw27.AccountSums': WHATEVER THE INPUT: true; the input reads as it did. -/
def accountSumsSpec : ChangeSpec := { name := "accountSums", fn := fun _ => fun
  | [d] => { results := [.lit (.bool true)], args := [d] }
  | _ => none }
def accountSumsRow : OpenClaim := { program := "ytinpgejkkfpckaa", sum := "121c7f9b04747e181f2834a89323ed66be832185c998c024da94c570c48b6291", func := "muster/musterlaw27.AccountSums", spec := "accountSums", inPlace := ["slices.overlaps[int]"], unfollowed := true, recurses := true, plainKeys := false, apart := false }
def AccountSumsSaid : Prop := accountSumsRow.holds Try.pinned (OpenSpec.ofChange accountSumsSpec)

/-- ITS FALSE NEIGHBOUR: 'it returns false'. Refute it at one input. -/
def accountSumsWrong : ChangeSpec := { name := "accountSums", fn := fun _ => fun
  | [d] => { results := [.lit (.bool false)], args := [d] }
  | _ => none }
def AccountSumsWrongFalsely : Prop := accountSumsRow.holds Try.pinned (OpenSpec.ofChange accountSumsWrong)

/-- 'musterlaw27.AccountNumbers': WHATEVER THE INPUT: true; the input reads as it did. -/
def accountNumbersSpec : ChangeSpec := { name := "accountNumbers", fn := fun _ => fun
  | [] => { results := [.lit (.bool true)], args := [] }
  | _ => none }
def accountNumbersRow : OpenClaim := { program := "ytinpgejkkfpckaa", sum := "121c7f9b04747e181f2834a89323ed66be832185c998c024da94c570c48b6291", func := "muster/musterlaw27.AccountNumbers", spec := "accountNumbers", inPlace := ["slices.overlaps[int]"], unfollowed := true, recurses := true, plainKeys := false, apart := false }
def AccountNumbersSaid : Prop := accountNumbersRow.holds Try.pinned (OpenSpec.ofChange accountNumbersSpec)

/-- ITS FALSE NEIGHBOUR: 'it returns false'. Refute it at one input. -/
def accountNumbersWrong : ChangeSpec := { name := "accountNumbers", fn := fun _ => fun
  | [] => { results := [.lit (.bool false)], args := [] }
  | _ => none }
def AccountNumbersWrongFalsely : Prop := accountNumbersRow.holds Try.pinned (OpenSpec.ofChange accountNumbersWrong)

/-- 'musterlaw27.AccountOnce': WHATEVER THE INPUT: true; the input reads as it did. -/
def accountOnceSpec : ChangeSpec := { name := "accountOnce", fn := fun _ => fun
  | [d1, d2, d3] => { results := [.lit (.bool true)], args := [d1, d2, d3] }
  | _ => none }
def accountOnceRow : OpenClaim := { program := "ytinpgejkkfpckaa", sum := "121c7f9b04747e181f2834a89323ed66be832185c998c024da94c570c48b6291", func := "muster/musterlaw27.AccountOnce", spec := "accountOnce", inPlace := ["slices.overlaps[int]"], unfollowed := true, recurses := true, plainKeys := false, apart := false }
def AccountOnceSaid : Prop := accountOnceRow.holds Try.pinned (OpenSpec.ofChange accountOnceSpec)

/-- ITS FALSE NEIGHBOUR: 'it returns false'. Refute it at one input. -/
def accountOnceWrong : ChangeSpec := { name := "accountOnce", fn := fun _ => fun
  | [d1, d2, d3] => { results := [.lit (.bool false)], args := [d1, d2, d3] }
  | _ => none }
def AccountOnceWrongFalsely : Prop := accountOnceRow.holds Try.pinned (OpenSpec.ofChange accountOnceWrong)

/-- 'musterlaw27.AccountParts': WHATEVER THE INPUT: true; the input reads as it did. -/
def accountPartsSpec : ChangeSpec := { name := "accountParts", fn := fun _ => fun
  | [d1, d2, d3, d4, d5] => { results := [.lit (.bool true)], args := [d1, d2, d3, d4, d5] }
  | _ => none }
def accountPartsRow : OpenClaim := { program := "ytinpgejkkfpckaa", sum := "121c7f9b04747e181f2834a89323ed66be832185c998c024da94c570c48b6291", func := "muster/musterlaw27.AccountParts", spec := "accountParts", inPlace := ["slices.overlaps[int]"], unfollowed := true, recurses := true, plainKeys := false, apart := false }
def AccountPartsSaid : Prop := accountPartsRow.holds Try.pinned (OpenSpec.ofChange accountPartsSpec)

/-- ITS FALSE NEIGHBOUR: 'it returns false'. Refute it at one input. -/
def accountPartsWrong : ChangeSpec := { name := "accountParts", fn := fun _ => fun
  | [d1, d2, d3, d4, d5] => { results := [.lit (.bool false)], args := [d1, d2, d3, d4, d5] }
  | _ => none }
def AccountPartsWrongFalsely : Prop := accountPartsRow.holds Try.pinned (OpenSpec.ofChange accountPartsWrong)

/-- 'musterlaw27.AccountApart': WHATEVER THE INPUT: true; the input reads as it did. -/
def accountApartSpec : ChangeSpec := { name := "accountApart", fn := fun _ => fun
  | [d1, d2] => { results := [.lit (.bool true)], args := [d1, d2] }
  | _ => none }
def accountApartRow : OpenClaim := { program := "ytinpgejkkfpckaa", sum := "121c7f9b04747e181f2834a89323ed66be832185c998c024da94c570c48b6291", func := "muster/musterlaw27.AccountApart", spec := "accountApart", inPlace := ["slices.overlaps[int]"], unfollowed := true, recurses := true, plainKeys := false, apart := false }
def AccountApartSaid : Prop := accountApartRow.holds Try.pinned (OpenSpec.ofChange accountApartSpec)

/-- ITS FALSE NEIGHBOUR: 'it returns false'. Refute it at one input. -/
def accountApartWrong : ChangeSpec := { name := "accountApart", fn := fun _ => fun
  | [d1, d2] => { results := [.lit (.bool false)], args := [d1, d2] }
  | _ => none }
def AccountApartWrongFalsely : Prop := accountApartRow.holds Try.pinned (OpenSpec.ofChange accountApartWrong)

/-- 'musterlaw27.AccountPlays': WHATEVER THE INPUT: true; the input reads as it did. -/
def accountPlaysSpec : ChangeSpec := { name := "accountPlays", fn := fun _ => fun
  | [d1, d2, d3, d4] => { results := [.lit (.bool true)], args := [d1, d2, d3, d4] }
  | _ => none }
def accountPlaysRow : OpenClaim := { program := "ytinpgejkkfpckaa", sum := "121c7f9b04747e181f2834a89323ed66be832185c998c024da94c570c48b6291", func := "muster/musterlaw27.AccountPlays", spec := "accountPlays", inPlace := ["slices.overlaps[int]"], unfollowed := true, recurses := true, plainKeys := false, apart := false }
def AccountPlaysSaid : Prop := accountPlaysRow.holds Try.pinned (OpenSpec.ofChange accountPlaysSpec)

/-- ITS FALSE NEIGHBOUR: 'it returns false'. Refute it at one input. -/
def accountPlaysWrong : ChangeSpec := { name := "accountPlays", fn := fun _ => fun
  | [d1, d2, d3, d4] => { results := [.lit (.bool false)], args := [d1, d2, d3, d4] }
  | _ => none }
def AccountPlaysWrongFalsely : Prop := accountPlaysRow.holds Try.pinned (OpenSpec.ofChange accountPlaysWrong)

/-- 'musterlaw27.AccountNone': WHATEVER THE INPUT: true; the input reads as it did. -/
def accountNoneSpec : ChangeSpec := { name := "accountNone", fn := fun _ => fun
  | [d1, d2, d3, d4] => { results := [.lit (.bool true)], args := [d1, d2, d3, d4] }
  | _ => none }
def accountNoneRow : OpenClaim := { program := "ytinpgejkkfpckaa", sum := "121c7f9b04747e181f2834a89323ed66be832185c998c024da94c570c48b6291", func := "muster/musterlaw27.AccountNone", spec := "accountNone", inPlace := ["slices.overlaps[int]"], unfollowed := true, recurses := true, plainKeys := false, apart := false }
def AccountNoneSaid : Prop := accountNoneRow.holds Try.pinned (OpenSpec.ofChange accountNoneSpec)

/-- ITS FALSE NEIGHBOUR: 'it returns false'. Refute it at one input. -/
def accountNoneWrong : ChangeSpec := { name := "accountNone", fn := fun _ => fun
  | [d1, d2, d3, d4] => { results := [.lit (.bool false)], args := [d1, d2, d3, d4] }
  | _ => none }
def AccountNoneWrongFalsely : Prop := accountNoneRow.holds Try.pinned (OpenSpec.ofChange accountNoneWrong)

/- THE SECOND FORM. 'bulk': how many values and letters a reading holds, each counted each time it is reached (what is shared counts as often as it is met; a slice's spare places count too). A statement '..UptoSaid' is the law's where the arguments, and the package variables that the reading takes, are together of bulk at most 1048576: NARROWER than '..Said'. Prove '..Said' where nothing that the law and all that it calls make is longer than what came in: it says more and counts as full. Else prove '..UptoSaid'. A law counts once. -/
mutual
def uptoBulk {H : Type} : DataW H → Nat
  | .lit (.string bytes) => bytes.length + 1
  | .lit _ => 1
  | .nil => 1
  | .ptr d => uptoBulk d + 1
  | .slice elems spare => uptoBulkAll elems + uptoBulkAll spare + 1
  | .agg parts => uptoBulkAll parts + 1
  | .iface _ d => uptoBulk d + 1
  | .map entries => uptoBulkEntries entries + 1
  | .held _ => 1
def uptoBulkAll {H : Type} : List (DataW H) → Nat
  | [] => 0
  | d :: r => uptoBulk d + uptoBulkAll r
def uptoBulkEntries {H : Type} : List (Lit × DataW H) → Nat
  | [] => 0
  | x :: r => uptoBulkEntry x + uptoBulkEntries r
def uptoBulkEntry {H : Type} : Lit × DataW H → Nat
  | (.string bytes, d) => bytes.length + uptoBulk d + 1
  | (_, d) => uptoBulk d + 1
 end
def uptoSmall : (H : Type) → List (DataW H) → Bool := fun _ ds => decide (uptoBulkAll ds ≤ 1048576)
def OpenSpec.upto (s : _root_.Go.ChangeSpec) : _root_.Go.OpenSpec := { _root_.Go.OpenSpec.ofChange s with cond := some uptoSmall }

/-- 'musterlaw27.AccountSums', WHERE WHAT IT READS IS OF BULK AT MOST 1048576: true; the input reads as it did. -/
def accountSumsUptoRow : OpenClaim := { program := "ytinpgejkkfpckaa", sum := "121c7f9b04747e181f2834a89323ed66be832185c998c024da94c570c48b6291", func := "muster/musterlaw27.AccountSums", spec := "accountSums", inPlace := ["slices.overlaps[int]"], unfollowed := true, recurses := true, plainKeys := false, apart := false, narrowed := true }
def AccountSumsUptoSaid : Prop := accountSumsUptoRow.holds Try.pinned (OpenSpec.upto accountSumsSpec)

/-- 'musterlaw27.AccountNumbers', WHERE WHAT IT READS IS OF BULK AT MOST 1048576: true; the input reads as it did. -/
def accountNumbersUptoRow : OpenClaim := { program := "ytinpgejkkfpckaa", sum := "121c7f9b04747e181f2834a89323ed66be832185c998c024da94c570c48b6291", func := "muster/musterlaw27.AccountNumbers", spec := "accountNumbers", inPlace := ["slices.overlaps[int]"], unfollowed := true, recurses := true, plainKeys := false, apart := false, narrowed := true }
def AccountNumbersUptoSaid : Prop := accountNumbersUptoRow.holds Try.pinned (OpenSpec.upto accountNumbersSpec)

/-- 'musterlaw27.AccountOnce', WHERE WHAT IT READS IS OF BULK AT MOST 1048576: true; the input reads as it did. -/
def accountOnceUptoRow : OpenClaim := { program := "ytinpgejkkfpckaa", sum := "121c7f9b04747e181f2834a89323ed66be832185c998c024da94c570c48b6291", func := "muster/musterlaw27.AccountOnce", spec := "accountOnce", inPlace := ["slices.overlaps[int]"], unfollowed := true, recurses := true, plainKeys := false, apart := false, narrowed := true }
def AccountOnceUptoSaid : Prop := accountOnceUptoRow.holds Try.pinned (OpenSpec.upto accountOnceSpec)

/-- 'musterlaw27.AccountParts', WHERE WHAT IT READS IS OF BULK AT MOST 1048576: true; the input reads as it did. -/
def accountPartsUptoRow : OpenClaim := { program := "ytinpgejkkfpckaa", sum := "121c7f9b04747e181f2834a89323ed66be832185c998c024da94c570c48b6291", func := "muster/musterlaw27.AccountParts", spec := "accountParts", inPlace := ["slices.overlaps[int]"], unfollowed := true, recurses := true, plainKeys := false, apart := false, narrowed := true }
def AccountPartsUptoSaid : Prop := accountPartsUptoRow.holds Try.pinned (OpenSpec.upto accountPartsSpec)

/-- 'musterlaw27.AccountApart', WHERE WHAT IT READS IS OF BULK AT MOST 1048576: true; the input reads as it did. -/
def accountApartUptoRow : OpenClaim := { program := "ytinpgejkkfpckaa", sum := "121c7f9b04747e181f2834a89323ed66be832185c998c024da94c570c48b6291", func := "muster/musterlaw27.AccountApart", spec := "accountApart", inPlace := ["slices.overlaps[int]"], unfollowed := true, recurses := true, plainKeys := false, apart := false, narrowed := true }
def AccountApartUptoSaid : Prop := accountApartUptoRow.holds Try.pinned (OpenSpec.upto accountApartSpec)

/-- 'musterlaw27.AccountPlays', WHERE WHAT IT READS IS OF BULK AT MOST 1048576: true; the input reads as it did. -/
def accountPlaysUptoRow : OpenClaim := { program := "ytinpgejkkfpckaa", sum := "121c7f9b04747e181f2834a89323ed66be832185c998c024da94c570c48b6291", func := "muster/musterlaw27.AccountPlays", spec := "accountPlays", inPlace := ["slices.overlaps[int]"], unfollowed := true, recurses := true, plainKeys := false, apart := false, narrowed := true }
def AccountPlaysUptoSaid : Prop := accountPlaysUptoRow.holds Try.pinned (OpenSpec.upto accountPlaysSpec)

/-- 'musterlaw27.AccountNone', WHERE WHAT IT READS IS OF BULK AT MOST 1048576: true; the input reads as it did. -/
def accountNoneUptoRow : OpenClaim := { program := "ytinpgejkkfpckaa", sum := "121c7f9b04747e181f2834a89323ed66be832185c998c024da94c570c48b6291", func := "muster/musterlaw27.AccountNone", spec := "accountNone", inPlace := ["slices.overlaps[int]"], unfollowed := true, recurses := true, plainKeys := false, apart := false, narrowed := true }
def AccountNoneUptoSaid : Prop := accountNoneUptoRow.holds Try.pinned (OpenSpec.upto accountNoneSpec)

end Rows
end Go.Proofs.Ytinpgejkkfpckaa
