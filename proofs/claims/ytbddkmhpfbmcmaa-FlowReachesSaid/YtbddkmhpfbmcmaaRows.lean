/-
  No cell of these rows narrows 'for every input' (looked for: loops, veiled, ifaces, maps, wideKeys, modest, calm, conditions, laid).
  DERIVED. THE GIVEN ROWS OF THIS SEAT. 8 by the template 'for every input the law returns true; each argument reads behind the call as it read before'; 0 by the template 'total and deterministic' (their statements: YtbddkmhpfbmcmaaTotals.lean).
  GIVEN WITH THE SEED: the statements are not yours to turn. If you find one false, say at which input.
  Laid BY PROGRAM, IN A SANDBOX (cutbox-rows.mjs): the forced cells as the released guide's own fill.sh prints them over the translation d74603f0fb2af402… (all of the seat's roots in one cut). By AI agents, Wed Nov 11 2026. No macro, syntax, notation, axiom, sorry.
-/
import Derived.Test.YtbddkmhpfbmcmaaChecked
import GoSem.Claim
import GoSem.ClaimJoined
import GoSem.ClaimMapViews
import Derived.JoinedTies
import Derived.KernelRfl
namespace Go.Proofs.Ytbddkmhpfbmcmaa
/- THE CELL 'sum', in the pinned program and in every row, IS THE sha256 OF THE DUMP (.gsa) THAT YtbddkmhpfbmcmaaProg.lean LOADS. Nothing in Lean hashes anything: it is a label: what it is worth is what the hold of that sum in a sandbox is worth. -/
noncomputable def Try.pinned : Pinned := { name := "ytbddkmhpfbmcmaa", sum := "d74603f0fb2af4021c3a5a3604f93d0159ea1e86cb1529fa2a56d513aadf850c", checked := Try.checked }
namespace Rows
def none {H : Type} : Left H := { results := [], args := [] }

/-- 'wordbooklaw27.FlowLeast': WHATEVER THE INPUT: true; the input reads as it did. -/
def flowLeastSpec : ChangeSpec := { name := "flowLeast", fn := fun _ => fun
  | [d1, d2, d3, d4, d5] => { results := [.lit (.bool true)], args := [d1, d2, d3, d4, d5] }
  | _ => none }
def flowLeastRow : OpenClaim := { program := "ytbddkmhpfbmcmaa", sum := "d74603f0fb2af4021c3a5a3604f93d0159ea1e86cb1529fa2a56d513aadf850c", func := "wordbook/wordbooklaw27.FlowLeast", spec := "flowLeast", unfollowed := true, recurses := true, apart := false }
def FlowLeastSaid : Prop := flowLeastRow.holds Try.pinned (OpenSpec.ofChange flowLeastSpec)

/-- ITS FALSE NEIGHBOUR: 'it returns false'. Refute it at one input. -/
def flowLeastWrong : ChangeSpec := { name := "flowLeast", fn := fun _ => fun
  | [d1, d2, d3, d4, d5] => { results := [.lit (.bool false)], args := [d1, d2, d3, d4, d5] }
  | _ => none }
def FlowLeastWrongFalsely : Prop := flowLeastRow.holds Try.pinned (OpenSpec.ofChange flowLeastWrong)

/-- 'wordbooklaw27.FlowChecks': WHATEVER THE INPUT: true; the input reads as it did. -/
def flowChecksSpec : ChangeSpec := { name := "flowChecks", fn := fun _ => fun
  | [d1, d2, d3, d4, d5] => { results := [.lit (.bool true)], args := [d1, d2, d3, d4, d5] }
  | _ => none }
def flowChecksRow : OpenClaim := { program := "ytbddkmhpfbmcmaa", sum := "d74603f0fb2af4021c3a5a3604f93d0159ea1e86cb1529fa2a56d513aadf850c", func := "wordbook/wordbooklaw27.FlowChecks", spec := "flowChecks", unfollowed := true, recurses := true, apart := false }
def FlowChecksSaid : Prop := flowChecksRow.holds Try.pinned (OpenSpec.ofChange flowChecksSpec)

/-- ITS FALSE NEIGHBOUR: 'it returns false'. Refute it at one input. -/
def flowChecksWrong : ChangeSpec := { name := "flowChecks", fn := fun _ => fun
  | [d1, d2, d3, d4, d5] => { results := [.lit (.bool false)], args := [d1, d2, d3, d4, d5] }
  | _ => none }
def FlowChecksWrongFalsely : Prop := flowChecksRow.holds Try.pinned (OpenSpec.ofChange flowChecksWrong)

/-- 'wordbooklaw27.FlowAcross': WHATEVER THE INPUT: true; the input reads as it did. -/
def flowAcrossSpec : ChangeSpec := { name := "flowAcross", fn := fun _ => fun
  | [d1, d2, d3, d4] => { results := [.lit (.bool true)], args := [d1, d2, d3, d4] }
  | _ => none }
def flowAcrossRow : OpenClaim := { program := "ytbddkmhpfbmcmaa", sum := "d74603f0fb2af4021c3a5a3604f93d0159ea1e86cb1529fa2a56d513aadf850c", func := "wordbook/wordbooklaw27.FlowAcross", spec := "flowAcross", unfollowed := true, recurses := true, apart := false }
def FlowAcrossSaid : Prop := flowAcrossRow.holds Try.pinned (OpenSpec.ofChange flowAcrossSpec)

/-- ITS FALSE NEIGHBOUR: 'it returns false'. Refute it at one input. -/
def flowAcrossWrong : ChangeSpec := { name := "flowAcross", fn := fun _ => fun
  | [d1, d2, d3, d4] => { results := [.lit (.bool false)], args := [d1, d2, d3, d4] }
  | _ => none }
def FlowAcrossWrongFalsely : Prop := flowAcrossRow.holds Try.pinned (OpenSpec.ofChange flowAcrossWrong)

/-- 'wordbooklaw27.FlowDuality': WHATEVER THE INPUT: true; the input reads as it did. -/
def flowDualitySpec : ChangeSpec := { name := "flowDuality", fn := fun _ => fun
  | [d1, d2, d3, d4] => { results := [.lit (.bool true)], args := [d1, d2, d3, d4] }
  | _ => none }
def flowDualityRow : OpenClaim := { program := "ytbddkmhpfbmcmaa", sum := "d74603f0fb2af4021c3a5a3604f93d0159ea1e86cb1529fa2a56d513aadf850c", func := "wordbook/wordbooklaw27.FlowDuality", spec := "flowDuality", unfollowed := true, recurses := true, apart := false }
def FlowDualitySaid : Prop := flowDualityRow.holds Try.pinned (OpenSpec.ofChange flowDualitySpec)

/-- ITS FALSE NEIGHBOUR: 'it returns false'. Refute it at one input. -/
def flowDualityWrong : ChangeSpec := { name := "flowDuality", fn := fun _ => fun
  | [d1, d2, d3, d4] => { results := [.lit (.bool false)], args := [d1, d2, d3, d4] }
  | _ => none }
def FlowDualityWrongFalsely : Prop := flowDualityRow.holds Try.pinned (OpenSpec.ofChange flowDualityWrong)

/-- 'wordbooklaw27.FlowReversed': WHATEVER THE INPUT: true; the input reads as it did. -/
def flowReversedSpec : ChangeSpec := { name := "flowReversed", fn := fun _ => fun
  | [d1, d2, d3] => { results := [.lit (.bool true)], args := [d1, d2, d3] }
  | _ => none }
def flowReversedRow : OpenClaim := { program := "ytbddkmhpfbmcmaa", sum := "d74603f0fb2af4021c3a5a3604f93d0159ea1e86cb1529fa2a56d513aadf850c", func := "wordbook/wordbooklaw27.FlowReversed", spec := "flowReversed", unfollowed := true, recurses := true, apart := false }
def FlowReversedSaid : Prop := flowReversedRow.holds Try.pinned (OpenSpec.ofChange flowReversedSpec)

/-- ITS FALSE NEIGHBOUR: 'it returns false'. Refute it at one input. -/
def flowReversedWrong : ChangeSpec := { name := "flowReversed", fn := fun _ => fun
  | [d1, d2, d3] => { results := [.lit (.bool false)], args := [d1, d2, d3] }
  | _ => none }
def FlowReversedWrongFalsely : Prop := flowReversedRow.holds Try.pinned (OpenSpec.ofChange flowReversedWrong)

/-- 'wordbooklaw27.FlowGrows': WHATEVER THE INPUT: true; the input reads as it did. -/
def flowGrowsSpec : ChangeSpec := { name := "flowGrows", fn := fun _ => fun
  | [d1, d2, d3, d4, d5, d6] => { results := [.lit (.bool true)], args := [d1, d2, d3, d4, d5, d6] }
  | _ => none }
def flowGrowsRow : OpenClaim := { program := "ytbddkmhpfbmcmaa", sum := "d74603f0fb2af4021c3a5a3604f93d0159ea1e86cb1529fa2a56d513aadf850c", func := "wordbook/wordbooklaw27.FlowGrows", spec := "flowGrows", unfollowed := true, recurses := true, apart := false }
def FlowGrowsSaid : Prop := flowGrowsRow.holds Try.pinned (OpenSpec.ofChange flowGrowsSpec)

/-- ITS FALSE NEIGHBOUR: 'it returns false'. Refute it at one input. -/
def flowGrowsWrong : ChangeSpec := { name := "flowGrows", fn := fun _ => fun
  | [d1, d2, d3, d4, d5, d6] => { results := [.lit (.bool false)], args := [d1, d2, d3, d4, d5, d6] }
  | _ => none }
def FlowGrowsWrongFalsely : Prop := flowGrowsRow.holds Try.pinned (OpenSpec.ofChange flowGrowsWrong)

/-- 'wordbooklaw27.FlowNumbers': WHATEVER THE INPUT: true; the input reads as it did. -/
def flowNumbersSpec : ChangeSpec := { name := "flowNumbers", fn := fun _ => fun
  | [d1, d2, d3] => { results := [.lit (.bool true)], args := [d1, d2, d3] }
  | _ => none }
def flowNumbersRow : OpenClaim := { program := "ytbddkmhpfbmcmaa", sum := "d74603f0fb2af4021c3a5a3604f93d0159ea1e86cb1529fa2a56d513aadf850c", func := "wordbook/wordbooklaw27.FlowNumbers", spec := "flowNumbers", unfollowed := true, recurses := true, apart := false }
def FlowNumbersSaid : Prop := flowNumbersRow.holds Try.pinned (OpenSpec.ofChange flowNumbersSpec)

/-- ITS FALSE NEIGHBOUR: 'it returns false'. Refute it at one input. -/
def flowNumbersWrong : ChangeSpec := { name := "flowNumbers", fn := fun _ => fun
  | [d1, d2, d3] => { results := [.lit (.bool false)], args := [d1, d2, d3] }
  | _ => none }
def FlowNumbersWrongFalsely : Prop := flowNumbersRow.holds Try.pinned (OpenSpec.ofChange flowNumbersWrong)

/-- 'wordbooklaw27.FlowReaches': WHATEVER THE INPUT: true; the input reads as it did. -/
def flowReachesSpec : ChangeSpec := { name := "flowReaches", fn := fun _ => fun
  | [d1, d2, d3] => { results := [.lit (.bool true)], args := [d1, d2, d3] }
  | _ => none }
def flowReachesRow : OpenClaim := { program := "ytbddkmhpfbmcmaa", sum := "d74603f0fb2af4021c3a5a3604f93d0159ea1e86cb1529fa2a56d513aadf850c", func := "wordbook/wordbooklaw27.FlowReaches", spec := "flowReaches", unfollowed := true, recurses := true, apart := false }
def FlowReachesSaid : Prop := flowReachesRow.holds Try.pinned (OpenSpec.ofChange flowReachesSpec)

/-- ITS FALSE NEIGHBOUR: 'it returns false'. Refute it at one input. -/
def flowReachesWrong : ChangeSpec := { name := "flowReaches", fn := fun _ => fun
  | [d1, d2, d3] => { results := [.lit (.bool false)], args := [d1, d2, d3] }
  | _ => none }
def FlowReachesWrongFalsely : Prop := flowReachesRow.holds Try.pinned (OpenSpec.ofChange flowReachesWrong)

/- THE SECOND FORM. 'bulk': how many values and letters a reading holds, each counted each time it is reached (what is shared counts as often as it is met; a slice's spare places count too). A statement '..UptoSaid' is the law's where the arguments, and the package variables that the reading takes, are together of bulk at most 1048576: NARROWER than '..Said'. Prove '..Said' where nothing that the law and all that it calls make is longer than what came in: it says more and counts as full. Else prove '..UptoSaid'. A law counts once. -/
mutual
def uptoBulk {H : Type} : DataW H → Nat
  | .lit (.string bytes) => bytes.length + 1
  | .lit _ => 1
  | .nil => 1
  | .ptr d => uptoBulk d + 1
  | .slice elems spare => uptoBulkAll elems + uptoBulkAll spare + 1
  | .agg parts => uptoBulkAll parts + 1
  | .iface _ d => uptoBulk d + 1
  | .map entries => uptoBulkEntries entries + 1
  | .held _ => 1
def uptoBulkAll {H : Type} : List (DataW H) → Nat
  | [] => 0
  | d :: r => uptoBulk d + uptoBulkAll r
def uptoBulkEntries {H : Type} : List (Lit × DataW H) → Nat
  | [] => 0
  | x :: r => uptoBulkEntry x + uptoBulkEntries r
def uptoBulkEntry {H : Type} : Lit × DataW H → Nat
  | (.string bytes, d) => bytes.length + uptoBulk d + 1
  | (_, d) => uptoBulk d + 1
 end
def uptoSmall : (H : Type) → List (DataW H) → Bool := fun _ ds => decide (uptoBulkAll ds ≤ 1048576)
def OpenSpec.upto (s : _root_.Go.ChangeSpec) : _root_.Go.OpenSpec := { _root_.Go.OpenSpec.ofChange s with cond := some uptoSmall }

/-- 'wordbooklaw27.FlowLeast', WHERE WHAT IT READS IS OF BULK AT MOST 1048576: true; the input reads as it did. -/
def flowLeastUptoRow : OpenClaim := { program := "ytbddkmhpfbmcmaa", sum := "d74603f0fb2af4021c3a5a3604f93d0159ea1e86cb1529fa2a56d513aadf850c", func := "wordbook/wordbooklaw27.FlowLeast", spec := "flowLeast", unfollowed := true, recurses := true, apart := false, narrowed := true }
def FlowLeastUptoSaid : Prop := flowLeastUptoRow.holds Try.pinned (OpenSpec.upto flowLeastSpec)

/-- 'wordbooklaw27.FlowChecks', WHERE WHAT IT READS IS OF BULK AT MOST 1048576: true; the input reads as it did. -/
def flowChecksUptoRow : OpenClaim := { program := "ytbddkmhpfbmcmaa", sum := "d74603f0fb2af4021c3a5a3604f93d0159ea1e86cb1529fa2a56d513aadf850c", func := "wordbook/wordbooklaw27.FlowChecks", spec := "flowChecks", unfollowed := true, recurses := true, apart := false, narrowed := true }
def FlowChecksUptoSaid : Prop := flowChecksUptoRow.holds Try.pinned (OpenSpec.upto flowChecksSpec)

/-- 'wordbooklaw27.FlowAcross', WHERE WHAT IT READS IS OF BULK AT MOST 1048576: true; the input reads as it did. -/
def flowAcrossUptoRow : OpenClaim := { program := "ytbddkmhpfbmcmaa", sum := "d74603f0fb2af4021c3a5a3604f93d0159ea1e86cb1529fa2a56d513aadf850c", func := "wordbook/wordbooklaw27.FlowAcross", spec := "flowAcross", unfollowed := true, recurses := true, apart := false, narrowed := true }
def FlowAcrossUptoSaid : Prop := flowAcrossUptoRow.holds Try.pinned (OpenSpec.upto flowAcrossSpec)

/-- 'wordbooklaw27.FlowDuality', WHERE WHAT IT READS IS OF BULK AT MOST 1048576: true; the input reads as it did. -/
def flowDualityUptoRow : OpenClaim := { program := "ytbddkmhpfbmcmaa", sum := "d74603f0fb2af4021c3a5a3604f93d0159ea1e86cb1529fa2a56d513aadf850c", func := "wordbook/wordbooklaw27.FlowDuality", spec := "flowDuality", unfollowed := true, recurses := true, apart := false, narrowed := true }
def FlowDualityUptoSaid : Prop := flowDualityUptoRow.holds Try.pinned (OpenSpec.upto flowDualitySpec)

/-- 'wordbooklaw27.FlowReversed', WHERE WHAT IT READS IS OF BULK AT MOST 1048576: true; the input reads as it did. -/
def flowReversedUptoRow : OpenClaim := { program := "ytbddkmhpfbmcmaa", sum := "d74603f0fb2af4021c3a5a3604f93d0159ea1e86cb1529fa2a56d513aadf850c", func := "wordbook/wordbooklaw27.FlowReversed", spec := "flowReversed", unfollowed := true, recurses := true, apart := false, narrowed := true }
def FlowReversedUptoSaid : Prop := flowReversedUptoRow.holds Try.pinned (OpenSpec.upto flowReversedSpec)

/-- 'wordbooklaw27.FlowGrows', WHERE WHAT IT READS IS OF BULK AT MOST 1048576: true; the input reads as it did. -/
def flowGrowsUptoRow : OpenClaim := { program := "ytbddkmhpfbmcmaa", sum := "d74603f0fb2af4021c3a5a3604f93d0159ea1e86cb1529fa2a56d513aadf850c", func := "wordbook/wordbooklaw27.FlowGrows", spec := "flowGrows", unfollowed := true, recurses := true, apart := false, narrowed := true }
def FlowGrowsUptoSaid : Prop := flowGrowsUptoRow.holds Try.pinned (OpenSpec.upto flowGrowsSpec)

/-- 'wordbooklaw27.FlowNumbers', WHERE WHAT IT READS IS OF BULK AT MOST 1048576: true; the input reads as it did. -/
def flowNumbersUptoRow : OpenClaim := { program := "ytbddkmhpfbmcmaa", sum := "d74603f0fb2af4021c3a5a3604f93d0159ea1e86cb1529fa2a56d513aadf850c", func := "wordbook/wordbooklaw27.FlowNumbers", spec := "flowNumbers", unfollowed := true, recurses := true, apart := false, narrowed := true }
def FlowNumbersUptoSaid : Prop := flowNumbersUptoRow.holds Try.pinned (OpenSpec.upto flowNumbersSpec)

/-- 'wordbooklaw27.FlowReaches', WHERE WHAT IT READS IS OF BULK AT MOST 1048576: true; the input reads as it did. -/
def flowReachesUptoRow : OpenClaim := { program := "ytbddkmhpfbmcmaa", sum := "d74603f0fb2af4021c3a5a3604f93d0159ea1e86cb1529fa2a56d513aadf850c", func := "wordbook/wordbooklaw27.FlowReaches", spec := "flowReaches", unfollowed := true, recurses := true, apart := false, narrowed := true }
def FlowReachesUptoSaid : Prop := flowReachesUptoRow.holds Try.pinned (OpenSpec.upto flowReachesSpec)

end Rows
end Go.Proofs.Ytbddkmhpfbmcmaa
