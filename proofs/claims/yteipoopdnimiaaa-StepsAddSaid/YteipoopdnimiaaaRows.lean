/-
  No cell of these rows narrows 'for every input' (looked for: loops, veiled, ifaces, maps, wideKeys, modest, calm, conditions, laid).
  DERIVED. THE GIVEN ROWS OF THIS SEAT. 4 by the template 'for every input the law returns true; each argument reads behind the call as it read before'; 0 by the template 'total and deterministic' (their statements: YteipoopdnimiaaaTotals.lean).
  GIVEN WITH THE SEED: the statements are not yours to turn. If you find one false, say at which input.
  Laid BY PROGRAM, IN A SANDBOX (cutbox-rows.mjs): the forced cells as the released guide's own fill.sh prints them over the translation 148e814d95fa7834… (all of the seat's roots in one cut). By AI agents, Wed Nov 11 2026. No macro, syntax, notation, axiom, sorry.
-/
import Derived.Test.YteipoopdnimiaaaChecked
import GoSem.Claim
import GoSem.ClaimJoined
import GoSem.ClaimMapViews
import Derived.JoinedTies
import Derived.KernelRfl
namespace Go.Proofs.Yteipoopdnimiaaa
/- THE CELL 'sum', in the pinned program and in every row, IS THE sha256 OF THE DUMP (.gsa) THAT YteipoopdnimiaaaProg.lean LOADS. Nothing in Lean hashes anything: it is a label: what it is worth is what the hold of that sum in a sandbox is worth. -/
noncomputable def Try.pinned : Pinned := { name := "yteipoopdnimiaaa", sum := "148e814d95fa78344e7a3484acdabba10bfca0aba13bdf61d6f2def0624c4a00", checked := Try.checked }
namespace Rows
def none {H : Type} : Left H := { results := [], args := [] }

/-- 'musterlaw11.StepsFits': WHATEVER THE INPUT: true; the input reads as it did. -/
def stepsFitsSpec : ChangeSpec := { name := "stepsFits", fn := fun _ => fun
  | [d1, d2, d3] => { results := [.lit (.bool true)], args := [d1, d2, d3] }
  | _ => none }
def stepsFitsRow : OpenClaim := { program := "yteipoopdnimiaaa", sum := "148e814d95fa78344e7a3484acdabba10bfca0aba13bdf61d6f2def0624c4a00", func := "muster/musterlaw11.StepsFits", spec := "stepsFits", inPlace := ["slices.overlaps[muster/api.Cut]"], unfollowed := true, recurses := true, apart := false }
def StepsFitsSaid : Prop := stepsFitsRow.holds Try.pinned (OpenSpec.ofChange stepsFitsSpec)

/-- ITS FALSE NEIGHBOUR: 'it returns false'. Refute it at one input. -/
def stepsFitsWrong : ChangeSpec := { name := "stepsFits", fn := fun _ => fun
  | [d1, d2, d3] => { results := [.lit (.bool false)], args := [d1, d2, d3] }
  | _ => none }
def StepsFitsWrongFalsely : Prop := stepsFitsRow.holds Try.pinned (OpenSpec.ofChange stepsFitsWrong)

/-- 'musterlaw11.StepsEarliest': WHATEVER THE INPUT: true; the input reads as it did. -/
def stepsEarliestSpec : ChangeSpec := { name := "stepsEarliest", fn := fun _ => fun
  | [d1, d2, d3] => { results := [.lit (.bool true)], args := [d1, d2, d3] }
  | _ => none }
def stepsEarliestRow : OpenClaim := { program := "yteipoopdnimiaaa", sum := "148e814d95fa78344e7a3484acdabba10bfca0aba13bdf61d6f2def0624c4a00", func := "muster/musterlaw11.StepsEarliest", spec := "stepsEarliest", inPlace := ["slices.overlaps[muster/api.Cut]"], unfollowed := true, recurses := true, apart := false }
def StepsEarliestSaid : Prop := stepsEarliestRow.holds Try.pinned (OpenSpec.ofChange stepsEarliestSpec)

/-- ITS FALSE NEIGHBOUR: 'it returns false'. Refute it at one input. -/
def stepsEarliestWrong : ChangeSpec := { name := "stepsEarliest", fn := fun _ => fun
  | [d1, d2, d3] => { results := [.lit (.bool false)], args := [d1, d2, d3] }
  | _ => none }
def StepsEarliestWrongFalsely : Prop := stepsEarliestRow.holds Try.pinned (OpenSpec.ofChange stepsEarliestWrong)

/-- 'musterlaw11.StepsTells': WHATEVER THE INPUT: true; the input reads as it did. -/
def stepsTellsSpec : ChangeSpec := { name := "stepsTells", fn := fun _ => fun
  | [d1, d2] => { results := [.lit (.bool true)], args := [d1, d2] }
  | _ => none }
def stepsTellsRow : OpenClaim := { program := "yteipoopdnimiaaa", sum := "148e814d95fa78344e7a3484acdabba10bfca0aba13bdf61d6f2def0624c4a00", func := "muster/musterlaw11.StepsTells", spec := "stepsTells", inPlace := ["slices.overlaps[muster/api.Cut]"], unfollowed := true, recurses := true, apart := false }
def StepsTellsSaid : Prop := stepsTellsRow.holds Try.pinned (OpenSpec.ofChange stepsTellsSpec)

/-- ITS FALSE NEIGHBOUR: 'it returns false'. Refute it at one input. -/
def stepsTellsWrong : ChangeSpec := { name := "stepsTells", fn := fun _ => fun
  | [d1, d2] => { results := [.lit (.bool false)], args := [d1, d2] }
  | _ => none }
def StepsTellsWrongFalsely : Prop := stepsTellsRow.holds Try.pinned (OpenSpec.ofChange stepsTellsWrong)

/-- 'musterlaw11.StepsAdd': WHATEVER THE INPUT: true; the input reads as it did. -/
def stepsAddSpec : ChangeSpec := { name := "stepsAdd", fn := fun _ => fun
  | [d1, d2, d3] => { results := [.lit (.bool true)], args := [d1, d2, d3] }
  | _ => none }
def stepsAddRow : OpenClaim := { program := "yteipoopdnimiaaa", sum := "148e814d95fa78344e7a3484acdabba10bfca0aba13bdf61d6f2def0624c4a00", func := "muster/musterlaw11.StepsAdd", spec := "stepsAdd", inPlace := ["slices.overlaps[muster/api.Cut]"], unfollowed := true, recurses := true, apart := false }
def StepsAddSaid : Prop := stepsAddRow.holds Try.pinned (OpenSpec.ofChange stepsAddSpec)

/-- ITS FALSE NEIGHBOUR: 'it returns false'. Refute it at one input. -/
def stepsAddWrong : ChangeSpec := { name := "stepsAdd", fn := fun _ => fun
  | [d1, d2, d3] => { results := [.lit (.bool false)], args := [d1, d2, d3] }
  | _ => none }
def StepsAddWrongFalsely : Prop := stepsAddRow.holds Try.pinned (OpenSpec.ofChange stepsAddWrong)

/- THE SECOND FORM. 'bulk': how many values and letters a reading holds, each counted each time it is reached (what is shared counts as often as it is met; a slice's spare places count too). A statement '..UptoSaid' is the law's where the arguments, and the package variables that the reading takes, are together of bulk at most 1048576: NARROWER than '..Said'. Prove '..Said' where nothing that the law and all that it calls make is longer than what came in: it says more and counts as full. Else prove '..UptoSaid'. A law counts once. -/
mutual
def uptoBulk {H : Type} : DataW H → Nat
  | .lit (.string bytes) => bytes.length + 1
  | .lit _ => 1
  | .nil => 1
  | .ptr d => uptoBulk d + 1
  | .slice elems spare => uptoBulkAll elems + uptoBulkAll spare + 1
  | .agg parts => uptoBulkAll parts + 1
  | .iface _ d => uptoBulk d + 1
  | .map entries => uptoBulkEntries entries + 1
  | .held _ => 1
def uptoBulkAll {H : Type} : List (DataW H) → Nat
  | [] => 0
  | d :: r => uptoBulk d + uptoBulkAll r
def uptoBulkEntries {H : Type} : List (Lit × DataW H) → Nat
  | [] => 0
  | x :: r => uptoBulkEntry x + uptoBulkEntries r
def uptoBulkEntry {H : Type} : Lit × DataW H → Nat
  | (.string bytes, d) => bytes.length + uptoBulk d + 1
  | (_, d) => uptoBulk d + 1
 end
def uptoSmall : (H : Type) → List (DataW H) → Bool := fun _ ds => decide (uptoBulkAll ds ≤ 1048576)
def OpenSpec.upto (s : _root_.Go.ChangeSpec) : _root_.Go.OpenSpec := { _root_.Go.OpenSpec.ofChange s with cond := some uptoSmall }

/-- 'musterlaw11.StepsFits', WHERE WHAT IT READS IS OF BULK AT MOST 1048576: true; the input reads as it did. -/
def stepsFitsUptoRow : OpenClaim := { program := "yteipoopdnimiaaa", sum := "148e814d95fa78344e7a3484acdabba10bfca0aba13bdf61d6f2def0624c4a00", func := "muster/musterlaw11.StepsFits", spec := "stepsFits", inPlace := ["slices.overlaps[muster/api.Cut]"], unfollowed := true, recurses := true, apart := false, narrowed := true }
def StepsFitsUptoSaid : Prop := stepsFitsUptoRow.holds Try.pinned (OpenSpec.upto stepsFitsSpec)

/-- 'musterlaw11.StepsEarliest', WHERE WHAT IT READS IS OF BULK AT MOST 1048576: true; the input reads as it did. -/
def stepsEarliestUptoRow : OpenClaim := { program := "yteipoopdnimiaaa", sum := "148e814d95fa78344e7a3484acdabba10bfca0aba13bdf61d6f2def0624c4a00", func := "muster/musterlaw11.StepsEarliest", spec := "stepsEarliest", inPlace := ["slices.overlaps[muster/api.Cut]"], unfollowed := true, recurses := true, apart := false, narrowed := true }
def StepsEarliestUptoSaid : Prop := stepsEarliestUptoRow.holds Try.pinned (OpenSpec.upto stepsEarliestSpec)

/-- 'musterlaw11.StepsTells', WHERE WHAT IT READS IS OF BULK AT MOST 1048576: true; the input reads as it did. -/
def stepsTellsUptoRow : OpenClaim := { program := "yteipoopdnimiaaa", sum := "148e814d95fa78344e7a3484acdabba10bfca0aba13bdf61d6f2def0624c4a00", func := "muster/musterlaw11.StepsTells", spec := "stepsTells", inPlace := ["slices.overlaps[muster/api.Cut]"], unfollowed := true, recurses := true, apart := false, narrowed := true }
def StepsTellsUptoSaid : Prop := stepsTellsUptoRow.holds Try.pinned (OpenSpec.upto stepsTellsSpec)

/-- 'musterlaw11.StepsAdd', WHERE WHAT IT READS IS OF BULK AT MOST 1048576: true; the input reads as it did. -/
def stepsAddUptoRow : OpenClaim := { program := "yteipoopdnimiaaa", sum := "148e814d95fa78344e7a3484acdabba10bfca0aba13bdf61d6f2def0624c4a00", func := "muster/musterlaw11.StepsAdd", spec := "stepsAdd", inPlace := ["slices.overlaps[muster/api.Cut]"], unfollowed := true, recurses := true, apart := false, narrowed := true }
def StepsAddUptoSaid : Prop := stepsAddUptoRow.holds Try.pinned (OpenSpec.upto stepsAddSpec)

end Rows
end Go.Proofs.Yteipoopdnimiaaa
