/-
  No cell of these rows narrows 'for every input' (looked for: loops, veiled, ifaces, maps, wideKeys, modest, calm, conditions, laid).
  DERIVED. THE GIVEN ROWS OF THIS SEAT. 10 by the template 'for every input the law returns true; each argument reads behind the call as it read before'; 0 by the template 'total and deterministic' (their statements: YtbdjdobockghhaaTotals.lean).
  GIVEN WITH THE SEED: the statements are not yours to turn. If you find one false, say at which input.
  Laid BY PROGRAM, IN A SANDBOX (cutbox-rows.mjs): the forced cells as the released guide's own fill.sh prints them over the translation bbf42a69421fde58… (all of the seat's roots in one cut). By AI agents, Wed Nov 11 2026. No macro, syntax, notation, axiom, sorry.
-/
import Derived.Test.YtbdjdobockghhaaChecked
import GoSem.Claim
import GoSem.ClaimJoined
import GoSem.ClaimMapViews
import Derived.JoinedTies
import Derived.KernelRfl
namespace Go.Proofs.Ytbdjdobockghhaa
/- THE CELL 'sum', in the pinned program and in every row, IS THE sha256 OF THE DUMP (.gsa) THAT YtbdjdobockghhaaProg.lean LOADS. Nothing in Lean hashes anything: it is a label: what it is worth is what the hold of that sum in a sandbox is worth. -/
noncomputable def Try.pinned : Pinned := { name := "ytbdjdobockghhaa", sum := "bbf42a69421fde584c037852b714f28467b7a6931549d87246b2df84314402ef", checked := Try.checked }
namespace Rows
def none {H : Type} : Left H := { results := [], args := [] }

/-- 'laws.FnExactConfText': WHATEVER THE INPUT: true; the input reads as it did. -/
def fnExactConfTextSpec : ChangeSpec := { name := "fnExactConfText", fn := fun _ => fun
  | [d] => { results := [.lit (.bool true)], args := [d] }
  | _ => none }
def fnExactConfTextRow : OpenClaim := { program := "ytbdjdobockghhaa", sum := "bbf42a69421fde584c037852b714f28467b7a6931549d87246b2df84314402ef", func := "loop.example/g00127/laws.FnExactConfText", spec := "fnExactConfText", apart := false }
def FnExactConfTextSaid : Prop := fnExactConfTextRow.holds Try.pinned (OpenSpec.ofChange fnExactConfTextSpec)

/-- ITS FALSE NEIGHBOUR: 'it returns false'. Refute it at one input. -/
def fnExactConfTextWrong : ChangeSpec := { name := "fnExactConfText", fn := fun _ => fun
  | [d] => { results := [.lit (.bool false)], args := [d] }
  | _ => none }
def FnExactConfTextWrongFalsely : Prop := fnExactConfTextRow.holds Try.pinned (OpenSpec.ofChange fnExactConfTextWrong)

/-- 'laws.FnExactFrame': WHATEVER THE INPUT: true; the input reads as it did. -/
def fnExactFrameSpec : ChangeSpec := { name := "fnExactFrame", fn := fun _ => fun
  | [d] => { results := [.lit (.bool true)], args := [d] }
  | _ => none }
def fnExactFrameRow : OpenClaim := { program := "ytbdjdobockghhaa", sum := "bbf42a69421fde584c037852b714f28467b7a6931549d87246b2df84314402ef", func := "loop.example/g00127/laws.FnExactFrame", spec := "fnExactFrame", apart := false }
def FnExactFrameSaid : Prop := fnExactFrameRow.holds Try.pinned (OpenSpec.ofChange fnExactFrameSpec)

/-- ITS FALSE NEIGHBOUR: 'it returns false'. Refute it at one input. -/
def fnExactFrameWrong : ChangeSpec := { name := "fnExactFrame", fn := fun _ => fun
  | [d] => { results := [.lit (.bool false)], args := [d] }
  | _ => none }
def FnExactFrameWrongFalsely : Prop := fnExactFrameRow.holds Try.pinned (OpenSpec.ofChange fnExactFrameWrong)

/-- 'laws.FnExactReadConf': WHATEVER THE INPUT: true; the input reads as it did. -/
def fnExactReadConfSpec : ChangeSpec := { name := "fnExactReadConf", fn := fun _ => fun
  | [d] => { results := [.lit (.bool true)], args := [d] }
  | _ => none }
def fnExactReadConfRow : OpenClaim := { program := "ytbdjdobockghhaa", sum := "bbf42a69421fde584c037852b714f28467b7a6931549d87246b2df84314402ef", func := "loop.example/g00127/laws.FnExactReadConf", spec := "fnExactReadConf", apart := false }
def FnExactReadConfSaid : Prop := fnExactReadConfRow.holds Try.pinned (OpenSpec.ofChange fnExactReadConfSpec)

/-- ITS FALSE NEIGHBOUR: 'it returns false'. Refute it at one input. -/
def fnExactReadConfWrong : ChangeSpec := { name := "fnExactReadConf", fn := fun _ => fun
  | [d] => { results := [.lit (.bool false)], args := [d] }
  | _ => none }
def FnExactReadConfWrongFalsely : Prop := fnExactReadConfRow.holds Try.pinned (OpenSpec.ofChange fnExactReadConfWrong)

/-- 'laws.FnExactReadShort': WHATEVER THE INPUT: true; the input reads as it did. -/
def fnExactReadShortSpec : ChangeSpec := { name := "fnExactReadShort", fn := fun _ => fun
  | [d1, d2] => { results := [.lit (.bool true)], args := [d1, d2] }
  | _ => none }
def fnExactReadShortRow : OpenClaim := { program := "ytbdjdobockghhaa", sum := "bbf42a69421fde584c037852b714f28467b7a6931549d87246b2df84314402ef", func := "loop.example/g00127/laws.FnExactReadShort", spec := "fnExactReadShort", apart := false }
def FnExactReadShortSaid : Prop := fnExactReadShortRow.holds Try.pinned (OpenSpec.ofChange fnExactReadShortSpec)

/-- ITS FALSE NEIGHBOUR: 'it returns false'. Refute it at one input. -/
def fnExactReadShortWrong : ChangeSpec := { name := "fnExactReadShort", fn := fun _ => fun
  | [d1, d2] => { results := [.lit (.bool false)], args := [d1, d2] }
  | _ => none }
def FnExactReadShortWrongFalsely : Prop := fnExactReadShortRow.holds Try.pinned (OpenSpec.ofChange fnExactReadShortWrong)

/-- 'laws.FnExactMost': WHATEVER THE INPUT: true; the input reads as it did. -/
def fnExactMostSpec : ChangeSpec := { name := "fnExactMost", fn := fun _ => fun
  | [d1, d2] => { results := [.lit (.bool true)], args := [d1, d2] }
  | _ => none }
def fnExactMostRow : OpenClaim := { program := "ytbdjdobockghhaa", sum := "bbf42a69421fde584c037852b714f28467b7a6931549d87246b2df84314402ef", func := "loop.example/g00127/laws.FnExactMost", spec := "fnExactMost", apart := false }
def FnExactMostSaid : Prop := fnExactMostRow.holds Try.pinned (OpenSpec.ofChange fnExactMostSpec)

/-- ITS FALSE NEIGHBOUR: 'it returns false'. Refute it at one input. -/
def fnExactMostWrong : ChangeSpec := { name := "fnExactMost", fn := fun _ => fun
  | [d1, d2] => { results := [.lit (.bool false)], args := [d1, d2] }
  | _ => none }
def FnExactMostWrongFalsely : Prop := fnExactMostRow.holds Try.pinned (OpenSpec.ofChange fnExactMostWrong)

/-- 'laws.FnTurned': WHATEVER THE INPUT: true; the input reads as it did. -/
def fnTurnedSpec : ChangeSpec := { name := "fnTurned", fn := fun _ => fun
  | [d] => { results := [.lit (.bool true)], args := [d] }
  | _ => none }
def fnTurnedRow : OpenClaim := { program := "ytbdjdobockghhaa", sum := "bbf42a69421fde584c037852b714f28467b7a6931549d87246b2df84314402ef", func := "loop.example/g00127/laws.FnTurned", spec := "fnTurned", apart := false }
def FnTurnedSaid : Prop := fnTurnedRow.holds Try.pinned (OpenSpec.ofChange fnTurnedSpec)

/-- ITS FALSE NEIGHBOUR: 'it returns false'. Refute it at one input. -/
def fnTurnedWrong : ChangeSpec := { name := "fnTurned", fn := fun _ => fun
  | [d] => { results := [.lit (.bool false)], args := [d] }
  | _ => none }
def FnTurnedWrongFalsely : Prop := fnTurnedRow.holds Try.pinned (OpenSpec.ofChange fnTurnedWrong)

/-- 'laws.FnExactEntryOk': WHATEVER THE INPUT: true; the input reads as it did. -/
def fnExactEntryOkSpec : ChangeSpec := { name := "fnExactEntryOk", fn := fun _ => fun
  | [d] => { results := [.lit (.bool true)], args := [d] }
  | _ => none }
def fnExactEntryOkRow : OpenClaim := { program := "ytbdjdobockghhaa", sum := "bbf42a69421fde584c037852b714f28467b7a6931549d87246b2df84314402ef", func := "loop.example/g00127/laws.FnExactEntryOk", spec := "fnExactEntryOk", apart := false }
def FnExactEntryOkSaid : Prop := fnExactEntryOkRow.holds Try.pinned (OpenSpec.ofChange fnExactEntryOkSpec)

/-- ITS FALSE NEIGHBOUR: 'it returns false'. Refute it at one input. -/
def fnExactEntryOkWrong : ChangeSpec := { name := "fnExactEntryOk", fn := fun _ => fun
  | [d] => { results := [.lit (.bool false)], args := [d] }
  | _ => none }
def FnExactEntryOkWrongFalsely : Prop := fnExactEntryOkRow.holds Try.pinned (OpenSpec.ofChange fnExactEntryOkWrong)

/-- 'laws.FnExactLogLast': WHATEVER THE INPUT: true; the input reads as it did. -/
def fnExactLogLastSpec : ChangeSpec := { name := "fnExactLogLast", fn := fun _ => fun
  | [d] => { results := [.lit (.bool true)], args := [d] }
  | _ => none }
def fnExactLogLastRow : OpenClaim := { program := "ytbdjdobockghhaa", sum := "bbf42a69421fde584c037852b714f28467b7a6931549d87246b2df84314402ef", func := "loop.example/g00127/laws.FnExactLogLast", spec := "fnExactLogLast", apart := false }
def FnExactLogLastSaid : Prop := fnExactLogLastRow.holds Try.pinned (OpenSpec.ofChange fnExactLogLastSpec)

/-- ITS FALSE NEIGHBOUR: 'it returns false'. Refute it at one input. -/
def fnExactLogLastWrong : ChangeSpec := { name := "fnExactLogLast", fn := fun _ => fun
  | [d] => { results := [.lit (.bool false)], args := [d] }
  | _ => none }
def FnExactLogLastWrongFalsely : Prop := fnExactLogLastRow.holds Try.pinned (OpenSpec.ofChange fnExactLogLastWrong)

/-- 'laws.FnExactDiskOk': WHATEVER THE INPUT: true; the input reads as it did. -/
def fnExactDiskOkSpec : ChangeSpec := { name := "fnExactDiskOk", fn := fun _ => fun
  | [d] => { results := [.lit (.bool true)], args := [d] }
  | _ => none }
def fnExactDiskOkRow : OpenClaim := { program := "ytbdjdobockghhaa", sum := "bbf42a69421fde584c037852b714f28467b7a6931549d87246b2df84314402ef", func := "loop.example/g00127/laws.FnExactDiskOk", spec := "fnExactDiskOk", apart := false }
def FnExactDiskOkSaid : Prop := fnExactDiskOkRow.holds Try.pinned (OpenSpec.ofChange fnExactDiskOkSpec)

/-- ITS FALSE NEIGHBOUR: 'it returns false'. Refute it at one input. -/
def fnExactDiskOkWrong : ChangeSpec := { name := "fnExactDiskOk", fn := fun _ => fun
  | [d] => { results := [.lit (.bool false)], args := [d] }
  | _ => none }
def FnExactDiskOkWrongFalsely : Prop := fnExactDiskOkRow.holds Try.pinned (OpenSpec.ofChange fnExactDiskOkWrong)

/-- 'laws.FnExactFileAt': WHATEVER THE INPUT: true; the input reads as it did. -/
def fnExactFileAtSpec : ChangeSpec := { name := "fnExactFileAt", fn := fun _ => fun
  | [d1, d2] => { results := [.lit (.bool true)], args := [d1, d2] }
  | _ => none }
def fnExactFileAtRow : OpenClaim := { program := "ytbdjdobockghhaa", sum := "bbf42a69421fde584c037852b714f28467b7a6931549d87246b2df84314402ef", func := "loop.example/g00127/laws.FnExactFileAt", spec := "fnExactFileAt", unfollowed := true, recurses := true, apart := false }
def FnExactFileAtSaid : Prop := fnExactFileAtRow.holds Try.pinned (OpenSpec.ofChange fnExactFileAtSpec)

/-- ITS FALSE NEIGHBOUR: 'it returns false'. Refute it at one input. -/
def fnExactFileAtWrong : ChangeSpec := { name := "fnExactFileAt", fn := fun _ => fun
  | [d1, d2] => { results := [.lit (.bool false)], args := [d1, d2] }
  | _ => none }
def FnExactFileAtWrongFalsely : Prop := fnExactFileAtRow.holds Try.pinned (OpenSpec.ofChange fnExactFileAtWrong)

/- THE SECOND FORM. 'bulk': how many values and letters a reading holds, each counted each time it is reached (what is shared counts as often as it is met; a slice's spare places count too). A statement '..UptoSaid' is the law's where the arguments, and the package variables that the reading takes, are together of bulk at most 1048576: NARROWER than '..Said'. Prove '..Said' where nothing that the law and all that it calls make is longer than what came in: it says more and counts as full. Else prove '..UptoSaid'. A law counts once. -/
mutual
def uptoBulk {H : Type} : DataW H → Nat
  | .lit (.string bytes) => bytes.length + 1
  | .lit _ => 1
  | .nil => 1
  | .ptr d => uptoBulk d + 1
  | .slice elems spare => uptoBulkAll elems + uptoBulkAll spare + 1
  | .agg parts => uptoBulkAll parts + 1
  | .iface _ d => uptoBulk d + 1
  | .map entries => uptoBulkEntries entries + 1
  | .held _ => 1
def uptoBulkAll {H : Type} : List (DataW H) → Nat
  | [] => 0
  | d :: r => uptoBulk d + uptoBulkAll r
def uptoBulkEntries {H : Type} : List (Lit × DataW H) → Nat
  | [] => 0
  | x :: r => uptoBulkEntry x + uptoBulkEntries r
def uptoBulkEntry {H : Type} : Lit × DataW H → Nat
  | (.string bytes, d) => bytes.length + uptoBulk d + 1
  | (_, d) => uptoBulk d + 1
 end
def uptoSmall : (H : Type) → List (DataW H) → Bool := fun _ ds => decide (uptoBulkAll ds ≤ 1048576)
def OpenSpec.upto (s : _root_.Go.ChangeSpec) : _root_.Go.OpenSpec := { _root_.Go.OpenSpec.ofChange s with cond := some uptoSmall }

/-- 'laws.FnExactConfText', WHERE WHAT IT READS IS OF BULK AT MOST 1048576: true; the input reads as it did. -/
def fnExactConfTextUptoRow : OpenClaim := { program := "ytbdjdobockghhaa", sum := "bbf42a69421fde584c037852b714f28467b7a6931549d87246b2df84314402ef", func := "loop.example/g00127/laws.FnExactConfText", spec := "fnExactConfText", apart := false, narrowed := true }
def FnExactConfTextUptoSaid : Prop := fnExactConfTextUptoRow.holds Try.pinned (OpenSpec.upto fnExactConfTextSpec)

/-- 'laws.FnExactFrame', WHERE WHAT IT READS IS OF BULK AT MOST 1048576: true; the input reads as it did. -/
def fnExactFrameUptoRow : OpenClaim := { program := "ytbdjdobockghhaa", sum := "bbf42a69421fde584c037852b714f28467b7a6931549d87246b2df84314402ef", func := "loop.example/g00127/laws.FnExactFrame", spec := "fnExactFrame", apart := false, narrowed := true }
def FnExactFrameUptoSaid : Prop := fnExactFrameUptoRow.holds Try.pinned (OpenSpec.upto fnExactFrameSpec)

/-- 'laws.FnExactReadConf', WHERE WHAT IT READS IS OF BULK AT MOST 1048576: true; the input reads as it did. -/
def fnExactReadConfUptoRow : OpenClaim := { program := "ytbdjdobockghhaa", sum := "bbf42a69421fde584c037852b714f28467b7a6931549d87246b2df84314402ef", func := "loop.example/g00127/laws.FnExactReadConf", spec := "fnExactReadConf", apart := false, narrowed := true }
def FnExactReadConfUptoSaid : Prop := fnExactReadConfUptoRow.holds Try.pinned (OpenSpec.upto fnExactReadConfSpec)

/-- 'laws.FnExactReadShort', WHERE WHAT IT READS IS OF BULK AT MOST 1048576: true; the input reads as it did. -/
def fnExactReadShortUptoRow : OpenClaim := { program := "ytbdjdobockghhaa", sum := "bbf42a69421fde584c037852b714f28467b7a6931549d87246b2df84314402ef", func := "loop.example/g00127/laws.FnExactReadShort", spec := "fnExactReadShort", apart := false, narrowed := true }
def FnExactReadShortUptoSaid : Prop := fnExactReadShortUptoRow.holds Try.pinned (OpenSpec.upto fnExactReadShortSpec)

/-- 'laws.FnExactMost', WHERE WHAT IT READS IS OF BULK AT MOST 1048576: true; the input reads as it did. -/
def fnExactMostUptoRow : OpenClaim := { program := "ytbdjdobockghhaa", sum := "bbf42a69421fde584c037852b714f28467b7a6931549d87246b2df84314402ef", func := "loop.example/g00127/laws.FnExactMost", spec := "fnExactMost", apart := false, narrowed := true }
def FnExactMostUptoSaid : Prop := fnExactMostUptoRow.holds Try.pinned (OpenSpec.upto fnExactMostSpec)

/-- 'laws.FnTurned', WHERE WHAT IT READS IS OF BULK AT MOST 1048576: true; the input reads as it did. -/
def fnTurnedUptoRow : OpenClaim := { program := "ytbdjdobockghhaa", sum := "bbf42a69421fde584c037852b714f28467b7a6931549d87246b2df84314402ef", func := "loop.example/g00127/laws.FnTurned", spec := "fnTurned", apart := false, narrowed := true }
def FnTurnedUptoSaid : Prop := fnTurnedUptoRow.holds Try.pinned (OpenSpec.upto fnTurnedSpec)

/-- 'laws.FnExactEntryOk', WHERE WHAT IT READS IS OF BULK AT MOST 1048576: true; the input reads as it did. -/
def fnExactEntryOkUptoRow : OpenClaim := { program := "ytbdjdobockghhaa", sum := "bbf42a69421fde584c037852b714f28467b7a6931549d87246b2df84314402ef", func := "loop.example/g00127/laws.FnExactEntryOk", spec := "fnExactEntryOk", apart := false, narrowed := true }
def FnExactEntryOkUptoSaid : Prop := fnExactEntryOkUptoRow.holds Try.pinned (OpenSpec.upto fnExactEntryOkSpec)

/-- 'laws.FnExactLogLast', WHERE WHAT IT READS IS OF BULK AT MOST 1048576: true; the input reads as it did. -/
def fnExactLogLastUptoRow : OpenClaim := { program := "ytbdjdobockghhaa", sum := "bbf42a69421fde584c037852b714f28467b7a6931549d87246b2df84314402ef", func := "loop.example/g00127/laws.FnExactLogLast", spec := "fnExactLogLast", apart := false, narrowed := true }
def FnExactLogLastUptoSaid : Prop := fnExactLogLastUptoRow.holds Try.pinned (OpenSpec.upto fnExactLogLastSpec)

/-- 'laws.FnExactDiskOk', WHERE WHAT IT READS IS OF BULK AT MOST 1048576: true; the input reads as it did. -/
def fnExactDiskOkUptoRow : OpenClaim := { program := "ytbdjdobockghhaa", sum := "bbf42a69421fde584c037852b714f28467b7a6931549d87246b2df84314402ef", func := "loop.example/g00127/laws.FnExactDiskOk", spec := "fnExactDiskOk", apart := false, narrowed := true }
def FnExactDiskOkUptoSaid : Prop := fnExactDiskOkUptoRow.holds Try.pinned (OpenSpec.upto fnExactDiskOkSpec)

/-- 'laws.FnExactFileAt', WHERE WHAT IT READS IS OF BULK AT MOST 1048576: true; the input reads as it did. -/
def fnExactFileAtUptoRow : OpenClaim := { program := "ytbdjdobockghhaa", sum := "bbf42a69421fde584c037852b714f28467b7a6931549d87246b2df84314402ef", func := "loop.example/g00127/laws.FnExactFileAt", spec := "fnExactFileAt", unfollowed := true, recurses := true, apart := false, narrowed := true }
def FnExactFileAtUptoSaid : Prop := fnExactFileAtUptoRow.holds Try.pinned (OpenSpec.upto fnExactFileAtSpec)

end Rows
end Go.Proofs.Ytbdjdobockghhaa
