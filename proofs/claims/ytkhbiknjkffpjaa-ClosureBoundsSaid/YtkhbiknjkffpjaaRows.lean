/-
  No cell of these rows narrows 'for every input' (looked for: loops, veiled, ifaces, maps, wideKeys, modest, calm, conditions, laid).
  DERIVED. THE GIVEN ROWS OF THIS SEAT. 8 by the template 'for every input the law returns true; each argument reads behind the call as it read before'; 0 by the template 'total and deterministic' (their statements: YtkhbiknjkffpjaaTotals.lean).
  GIVEN WITH THE SEED: the statements are not yours to turn. If you find one false, say at which input.
  Laid BY PROGRAM, IN A SANDBOX (cutbox-rows.mjs): the forced cells as the released guide's own fill.sh prints them over the translation 081fbaa1a2e75dcf… (all of the seat's roots in one cut). By AI agents, Wed Nov 11 2026. No macro, syntax, notation, axiom, sorry.
-/
import Derived.Test.YtkhbiknjkffpjaaChecked
import GoSem.Claim
import GoSem.ClaimJoined
import GoSem.ClaimMapViews
import Derived.JoinedTies
import Derived.KernelRfl
namespace Go.Proofs.Ytkhbiknjkffpjaa
/- THE CELL 'sum', in the pinned program and in every row, IS THE sha256 OF THE DUMP (.gsa) THAT YtkhbiknjkffpjaaProg.lean LOADS. Nothing in Lean hashes anything: it is a label: what it is worth is what the hold of that sum in a sandbox is worth. -/
noncomputable def Try.pinned : Pinned := { name := "ytkhbiknjkffpjaa", sum := "081fbaa1a2e75dcfe3525c6679fb1354b52faf5c01a82b5b00398482d195192f", checked := Try.checked }
namespace Rows
def none {H : Type} : Left H := { results := [], args := [] }

/-- 'wordbooklaw28.ClosureSets': WHATEVER THE INPUT: true; the input reads as it did. -/
def closureSetsSpec : ChangeSpec := { name := "closureSets", fn := fun _ => fun
  | [d1, d2, d3, d4, d5] => { results := [.lit (.bool true)], args := [d1, d2, d3, d4, d5] }
  | _ => none }
def closureSetsRow : OpenClaim := { program := "ytkhbiknjkffpjaa", sum := "081fbaa1a2e75dcfe3525c6679fb1354b52faf5c01a82b5b00398482d195192f", func := "wordbook/wordbooklaw28.ClosureSets", spec := "closureSets", unfollowed := true, recurses := true, apart := false }
def ClosureSetsSaid : Prop := closureSetsRow.holds Try.pinned (OpenSpec.ofChange closureSetsSpec)

/-- ITS FALSE NEIGHBOUR: 'it returns false'. Refute it at one input. -/
def closureSetsWrong : ChangeSpec := { name := "closureSets", fn := fun _ => fun
  | [d1, d2, d3, d4, d5] => { results := [.lit (.bool false)], args := [d1, d2, d3, d4, d5] }
  | _ => none }
def ClosureSetsWrongFalsely : Prop := closureSetsRow.holds Try.pinned (OpenSpec.ofChange closureSetsWrong)

/-- 'wordbooklaw28.ClosureNetworks': WHATEVER THE INPUT: true; the input reads as it did. -/
def closureNetworksSpec : ChangeSpec := { name := "closureNetworks", fn := fun _ => fun
  | [d1, d2, d3, d4] => { results := [.lit (.bool true)], args := [d1, d2, d3, d4] }
  | _ => none }
def closureNetworksRow : OpenClaim := { program := "ytkhbiknjkffpjaa", sum := "081fbaa1a2e75dcfe3525c6679fb1354b52faf5c01a82b5b00398482d195192f", func := "wordbook/wordbooklaw28.ClosureNetworks", spec := "closureNetworks", unfollowed := true, recurses := true, apart := false }
def ClosureNetworksSaid : Prop := closureNetworksRow.holds Try.pinned (OpenSpec.ofChange closureNetworksSpec)

/-- ITS FALSE NEIGHBOUR: 'it returns false'. Refute it at one input. -/
def closureNetworksWrong : ChangeSpec := { name := "closureNetworks", fn := fun _ => fun
  | [d1, d2, d3, d4] => { results := [.lit (.bool false)], args := [d1, d2, d3, d4] }
  | _ => none }
def ClosureNetworksWrongFalsely : Prop := closureNetworksRow.holds Try.pinned (OpenSpec.ofChange closureNetworksWrong)

/-- 'wordbooklaw28.ClosureMaxes': WHATEVER THE INPUT: true; the input reads as it did. -/
def closureMaxesSpec : ChangeSpec := { name := "closureMaxes", fn := fun _ => fun
  | [d1, d2, d3, d4] => { results := [.lit (.bool true)], args := [d1, d2, d3, d4] }
  | _ => none }
def closureMaxesRow : OpenClaim := { program := "ytkhbiknjkffpjaa", sum := "081fbaa1a2e75dcfe3525c6679fb1354b52faf5c01a82b5b00398482d195192f", func := "wordbook/wordbooklaw28.ClosureMaxes", spec := "closureMaxes", unfollowed := true, recurses := true, apart := false }
def ClosureMaxesSaid : Prop := closureMaxesRow.holds Try.pinned (OpenSpec.ofChange closureMaxesSpec)

/-- ITS FALSE NEIGHBOUR: 'it returns false'. Refute it at one input. -/
def closureMaxesWrong : ChangeSpec := { name := "closureMaxes", fn := fun _ => fun
  | [d1, d2, d3, d4] => { results := [.lit (.bool false)], args := [d1, d2, d3, d4] }
  | _ => none }
def ClosureMaxesWrongFalsely : Prop := closureMaxesRow.holds Try.pinned (OpenSpec.ofChange closureMaxesWrong)

/-- 'wordbooklaw28.ClosureBounds': WHATEVER THE INPUT: true; the input reads as it did. -/
def closureBoundsSpec : ChangeSpec := { name := "closureBounds", fn := fun _ => fun
  | [d1, d2, d3, d4, d5, d6, d7] => { results := [.lit (.bool true)], args := [d1, d2, d3, d4, d5, d6, d7] }
  | _ => none }
def closureBoundsRow : OpenClaim := { program := "ytkhbiknjkffpjaa", sum := "081fbaa1a2e75dcfe3525c6679fb1354b52faf5c01a82b5b00398482d195192f", func := "wordbook/wordbooklaw28.ClosureBounds", spec := "closureBounds", unfollowed := true, recurses := true, apart := false }
def ClosureBoundsSaid : Prop := closureBoundsRow.holds Try.pinned (OpenSpec.ofChange closureBoundsSpec)

/-- ITS FALSE NEIGHBOUR: 'it returns false'. Refute it at one input. -/
def closureBoundsWrong : ChangeSpec := { name := "closureBounds", fn := fun _ => fun
  | [d1, d2, d3, d4, d5, d6, d7] => { results := [.lit (.bool false)], args := [d1, d2, d3, d4, d5, d6, d7] }
  | _ => none }
def ClosureBoundsWrongFalsely : Prop := closureBoundsRow.holds Try.pinned (OpenSpec.ofChange closureBoundsWrong)

/-- 'wordbooklaw28.ClosureProves': WHATEVER THE INPUT: true; the input reads as it did. -/
def closureProvesSpec : ChangeSpec := { name := "closureProves", fn := fun _ => fun
  | [d1, d2, d3, d4] => { results := [.lit (.bool true)], args := [d1, d2, d3, d4] }
  | _ => none }
def closureProvesRow : OpenClaim := { program := "ytkhbiknjkffpjaa", sum := "081fbaa1a2e75dcfe3525c6679fb1354b52faf5c01a82b5b00398482d195192f", func := "wordbook/wordbooklaw28.ClosureProves", spec := "closureProves", unfollowed := true, recurses := true, apart := false }
def ClosureProvesSaid : Prop := closureProvesRow.holds Try.pinned (OpenSpec.ofChange closureProvesSpec)

/-- ITS FALSE NEIGHBOUR: 'it returns false'. Refute it at one input. -/
def closureProvesWrong : ChangeSpec := { name := "closureProves", fn := fun _ => fun
  | [d1, d2, d3, d4] => { results := [.lit (.bool false)], args := [d1, d2, d3, d4] }
  | _ => none }
def ClosureProvesWrongFalsely : Prop := closureProvesRow.holds Try.pinned (OpenSpec.ofChange closureProvesWrong)

/-- 'wordbooklaw28.ClosureLattice': WHATEVER THE INPUT: true; the input reads as it did. -/
def closureLatticeSpec : ChangeSpec := { name := "closureLattice", fn := fun _ => fun
  | [d1, d2, d3] => { results := [.lit (.bool true)], args := [d1, d2, d3] }
  | _ => none }
def closureLatticeRow : OpenClaim := { program := "ytkhbiknjkffpjaa", sum := "081fbaa1a2e75dcfe3525c6679fb1354b52faf5c01a82b5b00398482d195192f", func := "wordbook/wordbooklaw28.ClosureLattice", spec := "closureLattice", unfollowed := true, recurses := true, apart := false }
def ClosureLatticeSaid : Prop := closureLatticeRow.holds Try.pinned (OpenSpec.ofChange closureLatticeSpec)

/-- ITS FALSE NEIGHBOUR: 'it returns false'. Refute it at one input. -/
def closureLatticeWrong : ChangeSpec := { name := "closureLattice", fn := fun _ => fun
  | [d1, d2, d3] => { results := [.lit (.bool false)], args := [d1, d2, d3] }
  | _ => none }
def ClosureLatticeWrongFalsely : Prop := closureLatticeRow.holds Try.pinned (OpenSpec.ofChange closureLatticeWrong)

/-- 'wordbooklaw28.ClosureChanges': WHATEVER THE INPUT: true; the input reads as it did. -/
def closureChangesSpec : ChangeSpec := { name := "closureChanges", fn := fun _ => fun
  | [d1, d2, d3, d4] => { results := [.lit (.bool true)], args := [d1, d2, d3, d4] }
  | _ => none }
def closureChangesRow : OpenClaim := { program := "ytkhbiknjkffpjaa", sum := "081fbaa1a2e75dcfe3525c6679fb1354b52faf5c01a82b5b00398482d195192f", func := "wordbook/wordbooklaw28.ClosureChanges", spec := "closureChanges", unfollowed := true, recurses := true, apart := false }
def ClosureChangesSaid : Prop := closureChangesRow.holds Try.pinned (OpenSpec.ofChange closureChangesSpec)

/-- ITS FALSE NEIGHBOUR: 'it returns false'. Refute it at one input. -/
def closureChangesWrong : ChangeSpec := { name := "closureChanges", fn := fun _ => fun
  | [d1, d2, d3, d4] => { results := [.lit (.bool false)], args := [d1, d2, d3, d4] }
  | _ => none }
def ClosureChangesWrongFalsely : Prop := closureChangesRow.holds Try.pinned (OpenSpec.ofChange closureChangesWrong)

/-- 'wordbooklaw28.ClosureCuts': WHATEVER THE INPUT: true; the input reads as it did. -/
def closureCutsSpec : ChangeSpec := { name := "closureCuts", fn := fun _ => fun
  | [d1, d2, d3] => { results := [.lit (.bool true)], args := [d1, d2, d3] }
  | _ => none }
def closureCutsRow : OpenClaim := { program := "ytkhbiknjkffpjaa", sum := "081fbaa1a2e75dcfe3525c6679fb1354b52faf5c01a82b5b00398482d195192f", func := "wordbook/wordbooklaw28.ClosureCuts", spec := "closureCuts", unfollowed := true, recurses := true, apart := false }
def ClosureCutsSaid : Prop := closureCutsRow.holds Try.pinned (OpenSpec.ofChange closureCutsSpec)

/-- ITS FALSE NEIGHBOUR: 'it returns false'. Refute it at one input. -/
def closureCutsWrong : ChangeSpec := { name := "closureCuts", fn := fun _ => fun
  | [d1, d2, d3] => { results := [.lit (.bool false)], args := [d1, d2, d3] }
  | _ => none }
def ClosureCutsWrongFalsely : Prop := closureCutsRow.holds Try.pinned (OpenSpec.ofChange closureCutsWrong)

/- THE SECOND FORM. 'bulk': how many values and letters a reading holds, each counted each time it is reached (what is shared counts as often as it is met; a slice's spare places count too). A statement '..UptoSaid' is the law's where the arguments, and the package variables that the reading takes, are together of bulk at most 1048576: NARROWER than '..Said'. Prove '..Said' where nothing that the law and all that it calls make is longer than what came in: it says more and counts as full. Else prove '..UptoSaid'. A law counts once. -/
mutual
def uptoBulk {H : Type} : DataW H → Nat
  | .lit (.string bytes) => bytes.length + 1
  | .lit _ => 1
  | .nil => 1
  | .ptr d => uptoBulk d + 1
  | .slice elems spare => uptoBulkAll elems + uptoBulkAll spare + 1
  | .agg parts => uptoBulkAll parts + 1
  | .iface _ d => uptoBulk d + 1
  | .map entries => uptoBulkEntries entries + 1
  | .held _ => 1
def uptoBulkAll {H : Type} : List (DataW H) → Nat
  | [] => 0
  | d :: r => uptoBulk d + uptoBulkAll r
def uptoBulkEntries {H : Type} : List (Lit × DataW H) → Nat
  | [] => 0
  | x :: r => uptoBulkEntry x + uptoBulkEntries r
def uptoBulkEntry {H : Type} : Lit × DataW H → Nat
  | (.string bytes, d) => bytes.length + uptoBulk d + 1
  | (_, d) => uptoBulk d + 1
 end
def uptoSmall : (H : Type) → List (DataW H) → Bool := fun _ ds => decide (uptoBulkAll ds ≤ 1048576)
def OpenSpec.upto (s : _root_.Go.ChangeSpec) : _root_.Go.OpenSpec := { _root_.Go.OpenSpec.ofChange s with cond := some uptoSmall }

/-- 'wordbooklaw28.ClosureSets', WHERE WHAT IT READS IS OF BULK AT MOST 1048576: true; the input reads as it did. -/
def closureSetsUptoRow : OpenClaim := { program := "ytkhbiknjkffpjaa", sum := "081fbaa1a2e75dcfe3525c6679fb1354b52faf5c01a82b5b00398482d195192f", func := "wordbook/wordbooklaw28.ClosureSets", spec := "closureSets", unfollowed := true, recurses := true, apart := false, narrowed := true }
def ClosureSetsUptoSaid : Prop := closureSetsUptoRow.holds Try.pinned (OpenSpec.upto closureSetsSpec)

/-- 'wordbooklaw28.ClosureNetworks', WHERE WHAT IT READS IS OF BULK AT MOST 1048576: true; the input reads as it did. -/
def closureNetworksUptoRow : OpenClaim := { program := "ytkhbiknjkffpjaa", sum := "081fbaa1a2e75dcfe3525c6679fb1354b52faf5c01a82b5b00398482d195192f", func := "wordbook/wordbooklaw28.ClosureNetworks", spec := "closureNetworks", unfollowed := true, recurses := true, apart := false, narrowed := true }
def ClosureNetworksUptoSaid : Prop := closureNetworksUptoRow.holds Try.pinned (OpenSpec.upto closureNetworksSpec)

/-- 'wordbooklaw28.ClosureMaxes', WHERE WHAT IT READS IS OF BULK AT MOST 1048576: true; the input reads as it did. -/
def closureMaxesUptoRow : OpenClaim := { program := "ytkhbiknjkffpjaa", sum := "081fbaa1a2e75dcfe3525c6679fb1354b52faf5c01a82b5b00398482d195192f", func := "wordbook/wordbooklaw28.ClosureMaxes", spec := "closureMaxes", unfollowed := true, recurses := true, apart := false, narrowed := true }
def ClosureMaxesUptoSaid : Prop := closureMaxesUptoRow.holds Try.pinned (OpenSpec.upto closureMaxesSpec)

/-- 'wordbooklaw28.ClosureBounds', WHERE WHAT IT READS IS OF BULK AT MOST 1048576: true; the input reads as it did. -/
def closureBoundsUptoRow : OpenClaim := { program := "ytkhbiknjkffpjaa", sum := "081fbaa1a2e75dcfe3525c6679fb1354b52faf5c01a82b5b00398482d195192f", func := "wordbook/wordbooklaw28.ClosureBounds", spec := "closureBounds", unfollowed := true, recurses := true, apart := false, narrowed := true }
def ClosureBoundsUptoSaid : Prop := closureBoundsUptoRow.holds Try.pinned (OpenSpec.upto closureBoundsSpec)

/-- 'wordbooklaw28.ClosureProves', WHERE WHAT IT READS IS OF BULK AT MOST 1048576: true; the input reads as it did. -/
def closureProvesUptoRow : OpenClaim := { program := "ytkhbiknjkffpjaa", sum := "081fbaa1a2e75dcfe3525c6679fb1354b52faf5c01a82b5b00398482d195192f", func := "wordbook/wordbooklaw28.ClosureProves", spec := "closureProves", unfollowed := true, recurses := true, apart := false, narrowed := true }
def ClosureProvesUptoSaid : Prop := closureProvesUptoRow.holds Try.pinned (OpenSpec.upto closureProvesSpec)

/-- 'wordbooklaw28.ClosureLattice', WHERE WHAT IT READS IS OF BULK AT MOST 1048576: true; the input reads as it did. -/
def closureLatticeUptoRow : OpenClaim := { program := "ytkhbiknjkffpjaa", sum := "081fbaa1a2e75dcfe3525c6679fb1354b52faf5c01a82b5b00398482d195192f", func := "wordbook/wordbooklaw28.ClosureLattice", spec := "closureLattice", unfollowed := true, recurses := true, apart := false, narrowed := true }
def ClosureLatticeUptoSaid : Prop := closureLatticeUptoRow.holds Try.pinned (OpenSpec.upto closureLatticeSpec)

/-- 'wordbooklaw28.ClosureChanges', WHERE WHAT IT READS IS OF BULK AT MOST 1048576: true; the input reads as it did. -/
def closureChangesUptoRow : OpenClaim := { program := "ytkhbiknjkffpjaa", sum := "081fbaa1a2e75dcfe3525c6679fb1354b52faf5c01a82b5b00398482d195192f", func := "wordbook/wordbooklaw28.ClosureChanges", spec := "closureChanges", unfollowed := true, recurses := true, apart := false, narrowed := true }
def ClosureChangesUptoSaid : Prop := closureChangesUptoRow.holds Try.pinned (OpenSpec.upto closureChangesSpec)

/-- 'wordbooklaw28.ClosureCuts', WHERE WHAT IT READS IS OF BULK AT MOST 1048576: true; the input reads as it did. -/
def closureCutsUptoRow : OpenClaim := { program := "ytkhbiknjkffpjaa", sum := "081fbaa1a2e75dcfe3525c6679fb1354b52faf5c01a82b5b00398482d195192f", func := "wordbook/wordbooklaw28.ClosureCuts", spec := "closureCuts", unfollowed := true, recurses := true, apart := false, narrowed := true }
def ClosureCutsUptoSaid : Prop := closureCutsUptoRow.holds Try.pinned (OpenSpec.upto closureCutsSpec)

end Rows
end Go.Proofs.Ytkhbiknjkffpjaa
