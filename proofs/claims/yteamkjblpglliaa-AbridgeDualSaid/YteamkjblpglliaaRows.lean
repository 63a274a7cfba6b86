/-
  No cell of these rows narrows 'for every input' (looked for: loops, veiled, ifaces, maps, wideKeys, modest, calm, conditions, laid).
  DERIVED. THE GIVEN ROWS OF THIS SEAT. 6 by the template 'for every input the law returns true; each argument reads behind the call as it read before'; 0 by the template 'total and deterministic' (their statements: YteamkjblpglliaaTotals.lean).
  GIVEN WITH THE SEED: the statements are not yours to turn. If you find one false, say at which input.
  Laid BY PROGRAM, IN A SANDBOX (cutbox-rows.mjs): the forced cells as the released guide's own fill.sh prints them over the translation 753b62d381392438… (all of the seat's roots in one cut). By AI agents, Wed Nov 11 2026. No macro, syntax, notation, axiom, sorry.
-/
import Derived.Test.YteamkjblpglliaaChecked
import GoSem.Claim
import GoSem.ClaimJoined
import GoSem.ClaimMapViews
import Derived.JoinedTies
import Derived.KernelRfl
namespace Go.Proofs.Yteamkjblpglliaa
/- THE CELL 'sum', in the pinned program and in every row, IS THE sha256 OF THE DUMP (.gsa) THAT YteamkjblpglliaaProg.lean LOADS. Nothing in Lean hashes anything: it is a label: what it is worth is what the hold of that sum in a sandbox is worth. -/
noncomputable def Try.pinned : Pinned := { name := "yteamkjblpglliaa", sum := "753b62d3813924386373c842fbcaa816d0ab872ff0f66c8379d196398e6af293", checked := Try.checked }
namespace Rows
def none {H : Type} : Left H := { results := [], args := [] }

/-- 'wordbooklaw29.AbridgeDual': WHATEVER THE INPUT: true; the input reads as it did. -/
def abridgeDualSpec : ChangeSpec := { name := "abridgeDual", fn := fun _ => fun
  | [d1, d2, d3, d4] => { results := [.lit (.bool true)], args := [d1, d2, d3, d4] }
  | _ => none }
def abridgeDualRow : OpenClaim := { program := "yteamkjblpglliaa", sum := "753b62d3813924386373c842fbcaa816d0ab872ff0f66c8379d196398e6af293", func := "wordbook/wordbooklaw29.AbridgeDual", spec := "abridgeDual", unfollowed := true, recurses := true, apart := false }
def AbridgeDualSaid : Prop := abridgeDualRow.holds Try.pinned (OpenSpec.ofChange abridgeDualSpec)

/-- ITS FALSE NEIGHBOUR: 'it returns false'. Refute it at one input. -/
def abridgeDualWrong : ChangeSpec := { name := "abridgeDual", fn := fun _ => fun
  | [d1, d2, d3, d4] => { results := [.lit (.bool false)], args := [d1, d2, d3, d4] }
  | _ => none }
def AbridgeDualWrongFalsely : Prop := abridgeDualRow.holds Try.pinned (OpenSpec.ofChange abridgeDualWrong)

/-- 'wordbooklaw29.AbridgeSolves': WHATEVER THE INPUT: true; the input reads as it did. -/
def abridgeSolvesSpec : ChangeSpec := { name := "abridgeSolves", fn := fun _ => fun
  | [d] => { results := [.lit (.bool true)], args := [d] }
  | _ => none }
def abridgeSolvesRow : OpenClaim := { program := "yteamkjblpglliaa", sum := "753b62d3813924386373c842fbcaa816d0ab872ff0f66c8379d196398e6af293", func := "wordbook/wordbooklaw29.AbridgeSolves", spec := "abridgeSolves", unfollowed := true, recurses := true, apart := false }
def AbridgeSolvesSaid : Prop := abridgeSolvesRow.holds Try.pinned (OpenSpec.ofChange abridgeSolvesSpec)

/-- ITS FALSE NEIGHBOUR: 'it returns false'. Refute it at one input. -/
def abridgeSolvesWrong : ChangeSpec := { name := "abridgeSolves", fn := fun _ => fun
  | [d] => { results := [.lit (.bool false)], args := [d] }
  | _ => none }
def AbridgeSolvesWrongFalsely : Prop := abridgeSolvesRow.holds Try.pinned (OpenSpec.ofChange abridgeSolvesWrong)

/-- 'wordbooklaw29.AbridgeChecks': WHATEVER THE INPUT: true; the input reads as it did. -/
def abridgeChecksSpec : ChangeSpec := { name := "abridgeChecks", fn := fun _ => fun
  | [d1, d2, d3, d4, d5] => { results := [.lit (.bool true)], args := [d1, d2, d3, d4, d5] }
  | _ => none }
def abridgeChecksRow : OpenClaim := { program := "yteamkjblpglliaa", sum := "753b62d3813924386373c842fbcaa816d0ab872ff0f66c8379d196398e6af293", func := "wordbook/wordbooklaw29.AbridgeChecks", spec := "abridgeChecks", unfollowed := true, recurses := true, apart := false }
def AbridgeChecksSaid : Prop := abridgeChecksRow.holds Try.pinned (OpenSpec.ofChange abridgeChecksSpec)

/-- ITS FALSE NEIGHBOUR: 'it returns false'. Refute it at one input. -/
def abridgeChecksWrong : ChangeSpec := { name := "abridgeChecks", fn := fun _ => fun
  | [d1, d2, d3, d4, d5] => { results := [.lit (.bool false)], args := [d1, d2, d3, d4, d5] }
  | _ => none }
def AbridgeChecksWrongFalsely : Prop := abridgeChecksRow.holds Try.pinned (OpenSpec.ofChange abridgeChecksWrong)

/-- 'wordbooklaw29.AbridgeBound': WHATEVER THE INPUT: true; the input reads as it did. -/
def abridgeBoundSpec : ChangeSpec := { name := "abridgeBound", fn := fun _ => fun
  | [d1, d2, d3, d4, d5, d6, d7] => { results := [.lit (.bool true)], args := [d1, d2, d3, d4, d5, d6, d7] }
  | _ => none }
def abridgeBoundRow : OpenClaim := { program := "yteamkjblpglliaa", sum := "753b62d3813924386373c842fbcaa816d0ab872ff0f66c8379d196398e6af293", func := "wordbook/wordbooklaw29.AbridgeBound", spec := "abridgeBound", unfollowed := true, recurses := true, apart := false }
def AbridgeBoundSaid : Prop := abridgeBoundRow.holds Try.pinned (OpenSpec.ofChange abridgeBoundSpec)

/-- ITS FALSE NEIGHBOUR: 'it returns false'. Refute it at one input. -/
def abridgeBoundWrong : ChangeSpec := { name := "abridgeBound", fn := fun _ => fun
  | [d1, d2, d3, d4, d5, d6, d7] => { results := [.lit (.bool false)], args := [d1, d2, d3, d4, d5, d6, d7] }
  | _ => none }
def AbridgeBoundWrongFalsely : Prop := abridgeBoundRow.holds Try.pinned (OpenSpec.ofChange abridgeBoundWrong)

/-- 'wordbooklaw29.AbridgeFew': WHATEVER THE INPUT: true; the input reads as it did. -/
def abridgeFewSpec : ChangeSpec := { name := "abridgeFew", fn := fun _ => fun
  | [d1, d2, d3] => { results := [.lit (.bool true)], args := [d1, d2, d3] }
  | _ => none }
def abridgeFewRow : OpenClaim := { program := "yteamkjblpglliaa", sum := "753b62d3813924386373c842fbcaa816d0ab872ff0f66c8379d196398e6af293", func := "wordbook/wordbooklaw29.AbridgeFew", spec := "abridgeFew", unfollowed := true, recurses := true, apart := false }
def AbridgeFewSaid : Prop := abridgeFewRow.holds Try.pinned (OpenSpec.ofChange abridgeFewSpec)

/-- ITS FALSE NEIGHBOUR: 'it returns false'. Refute it at one input. -/
def abridgeFewWrong : ChangeSpec := { name := "abridgeFew", fn := fun _ => fun
  | [d1, d2, d3] => { results := [.lit (.bool false)], args := [d1, d2, d3] }
  | _ => none }
def AbridgeFewWrongFalsely : Prop := abridgeFewRow.holds Try.pinned (OpenSpec.ofChange abridgeFewWrong)

/-- 'wordbooklaw29.AbridgeBudget': WHATEVER THE INPUT: true; the input reads as it did. -/
def abridgeBudgetSpec : ChangeSpec := { name := "abridgeBudget", fn := fun _ => fun
  | [d1, d2] => { results := [.lit (.bool true)], args := [d1, d2] }
  | _ => none }
def abridgeBudgetRow : OpenClaim := { program := "yteamkjblpglliaa", sum := "753b62d3813924386373c842fbcaa816d0ab872ff0f66c8379d196398e6af293", func := "wordbook/wordbooklaw29.AbridgeBudget", spec := "abridgeBudget", unfollowed := true, recurses := true, apart := false }
def AbridgeBudgetSaid : Prop := abridgeBudgetRow.holds Try.pinned (OpenSpec.ofChange abridgeBudgetSpec)

/-- ITS FALSE NEIGHBOUR: 'it returns false'. Refute it at one input. -/
def abridgeBudgetWrong : ChangeSpec := { name := "abridgeBudget", fn := fun _ => fun
  | [d1, d2] => { results := [.lit (.bool false)], args := [d1, d2] }
  | _ => none }
def AbridgeBudgetWrongFalsely : Prop := abridgeBudgetRow.holds Try.pinned (OpenSpec.ofChange abridgeBudgetWrong)

/- THE SECOND FORM. 'bulk': how many values and letters a reading holds, each counted each time it is reached (what is shared counts as often as it is met; a slice's spare places count too). A statement '..UptoSaid' is the law's where the arguments, and the package variables that the reading takes, are together of bulk at most 1048576: NARROWER than '..Said'. Prove '..Said' where nothing that the law and all that it calls make is longer than what came in: it says more and counts as full. Else prove '..UptoSaid'. A law counts once. -/
mutual
def uptoBulk {H : Type} : DataW H → Nat
  | .lit (.string bytes) => bytes.length + 1
  | .lit _ => 1
  | .nil => 1
  | .ptr d => uptoBulk d + 1
  | .slice elems spare => uptoBulkAll elems + uptoBulkAll spare + 1
  | .agg parts => uptoBulkAll parts + 1
  | .iface _ d => uptoBulk d + 1
  | .map entries => uptoBulkEntries entries + 1
  | .held _ => 1
def uptoBulkAll {H : Type} : List (DataW H) → Nat
  | [] => 0
  | d :: r => uptoBulk d + uptoBulkAll r
def uptoBulkEntries {H : Type} : List (Lit × DataW H) → Nat
  | [] => 0
  | x :: r => uptoBulkEntry x + uptoBulkEntries r
def uptoBulkEntry {H : Type} : Lit × DataW H → Nat
  | (.string bytes, d) => bytes.length + uptoBulk d + 1
  | (_, d) => uptoBulk d + 1
 end
def uptoSmall : (H : Type) → List (DataW H) → Bool := fun _ ds => decide (uptoBulkAll ds ≤ 1048576)
def OpenSpec.upto (s : _root_.Go.ChangeSpec) : _root_.Go.OpenSpec := { _root_.Go.OpenSpec.ofChange s with cond := some uptoSmall }

/-- 'wordbooklaw29.AbridgeDual', WHERE WHAT IT READS IS OF BULK AT MOST 1048576: true; the input reads as it did. -/
def abridgeDualUptoRow : OpenClaim := { program := "yteamkjblpglliaa", sum := "753b62d3813924386373c842fbcaa816d0ab872ff0f66c8379d196398e6af293", func := "wordbook/wordbooklaw29.AbridgeDual", spec := "abridgeDual", unfollowed := true, recurses := true, apart := false, narrowed := true }
def AbridgeDualUptoSaid : Prop := abridgeDualUptoRow.holds Try.pinned (OpenSpec.upto abridgeDualSpec)

/-- 'wordbooklaw29.AbridgeSolves', WHERE WHAT IT READS IS OF BULK AT MOST 1048576: true; the input reads as it did. -/
def abridgeSolvesUptoRow : OpenClaim := { program := "yteamkjblpglliaa", sum := "753b62d3813924386373c842fbcaa816d0ab872ff0f66c8379d196398e6af293", func := "wordbook/wordbooklaw29.AbridgeSolves", spec := "abridgeSolves", unfollowed := true, recurses := true, apart := false, narrowed := true }
def AbridgeSolvesUptoSaid : Prop := abridgeSolvesUptoRow.holds Try.pinned (OpenSpec.upto abridgeSolvesSpec)

/-- 'wordbooklaw29.AbridgeChecks', WHERE WHAT IT READS IS OF BULK AT MOST 1048576: true; the input reads as it did. -/
def abridgeChecksUptoRow : OpenClaim := { program := "yteamkjblpglliaa", sum := "753b62d3813924386373c842fbcaa816d0ab872ff0f66c8379d196398e6af293", func := "wordbook/wordbooklaw29.AbridgeChecks", spec := "abridgeChecks", unfollowed := true, recurses := true, apart := false, narrowed := true }
def AbridgeChecksUptoSaid : Prop := abridgeChecksUptoRow.holds Try.pinned (OpenSpec.upto abridgeChecksSpec)

/-- 'wordbooklaw29.AbridgeBound', WHERE WHAT IT READS IS OF BULK AT MOST 1048576: true; the input reads as it did. -/
def abridgeBoundUptoRow : OpenClaim := { program := "yteamkjblpglliaa", sum := "753b62d3813924386373c842fbcaa816d0ab872ff0f66c8379d196398e6af293", func := "wordbook/wordbooklaw29.AbridgeBound", spec := "abridgeBound", unfollowed := true, recurses := true, apart := false, narrowed := true }
def AbridgeBoundUptoSaid : Prop := abridgeBoundUptoRow.holds Try.pinned (OpenSpec.upto abridgeBoundSpec)

/-- 'wordbooklaw29.AbridgeFew', WHERE WHAT IT READS IS OF BULK AT MOST 1048576: true; the input reads as it did. -/
def abridgeFewUptoRow : OpenClaim := { program := "yteamkjblpglliaa", sum := "753b62d3813924386373c842fbcaa816d0ab872ff0f66c8379d196398e6af293", func := "wordbook/wordbooklaw29.AbridgeFew", spec := "abridgeFew", unfollowed := true, recurses := true, apart := false, narrowed := true }
def AbridgeFewUptoSaid : Prop := abridgeFewUptoRow.holds Try.pinned (OpenSpec.upto abridgeFewSpec)

/-- 'wordbooklaw29.AbridgeBudget', WHERE WHAT IT READS IS OF BULK AT MOST 1048576: true; the input reads as it did. -/
def abridgeBudgetUptoRow : OpenClaim := { program := "yteamkjblpglliaa", sum := "753b62d3813924386373c842fbcaa816d0ab872ff0f66c8379d196398e6af293", func := "wordbook/wordbooklaw29.AbridgeBudget", spec := "abridgeBudget", unfollowed := true, recurses := true, apart := false, narrowed := true }
def AbridgeBudgetUptoSaid : Prop := abridgeBudgetUptoRow.holds Try.pinned (OpenSpec.upto abridgeBudgetSpec)

end Rows
end Go.Proofs.Yteamkjblpglliaa
