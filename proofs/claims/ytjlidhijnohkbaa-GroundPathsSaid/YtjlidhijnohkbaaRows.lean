/-
  No cell of these rows narrows 'for every input' (looked for: loops, veiled, ifaces, maps, wideKeys, modest, calm, conditions, laid).
  DERIVED. THE GIVEN ROWS OF THIS SEAT. 9 by the template 'for every input the law returns true; each argument reads behind the call as it read before'; 0 by the template 'total and deterministic' (their statements: YtjlidhijnohkbaaTotals.lean).
  GIVEN WITH THE SEED: the statements are not yours to turn. If you find one false, say at which input.
  Laid BY PROGRAM, IN A SANDBOX (cutbox-rows.mjs): the forced cells as the released guide's own fill.sh prints them over the translation 2dfe4817954a4151… (all of the seat's roots in one cut). By AI agents, Wed Nov 11 2026. No macro, syntax, notation, axiom, sorry.
-/
import Derived.Test.YtjlidhijnohkbaaChecked
import GoSem.Claim
import GoSem.ClaimJoined
import GoSem.ClaimMapViews
import Derived.JoinedTies
import Derived.KernelRfl
namespace Go.Proofs.Ytjlidhijnohkbaa
/- THE CELL 'sum', in the pinned program and in every row, IS THE sha256 OF THE DUMP (.gsa) THAT YtjlidhijnohkbaaProg.lean LOADS. Nothing in Lean hashes anything: it is a label: what it is worth is what the hold of that sum in a sandbox is worth. -/
noncomputable def Try.pinned : Pinned := { name := "ytjlidhijnohkbaa", sum := "2dfe4817954a4151e526372e5c1b2e2f30b75599f827ab8752cc20156edf2e52", checked := Try.checked }
namespace Rows
def none {H : Type} : Left H := { results := [], args := [] }

/-- 'wordbooklaw24.GroundRanks': WHATEVER THE INPUT: true; the input reads as it did. -/
def groundRanksSpec : ChangeSpec := { name := "groundRanks", fn := fun _ => fun
  | [d1, d2, d3, d4, d5] => { results := [.lit (.bool true)], args := [d1, d2, d3, d4, d5] }
  | _ => none }
def groundRanksRow : OpenClaim := { program := "ytjlidhijnohkbaa", sum := "2dfe4817954a4151e526372e5c1b2e2f30b75599f827ab8752cc20156edf2e52", func := "wordbook/wordbooklaw24.GroundRanks", spec := "groundRanks", unfollowed := true, recurses := true, apart := false }
def GroundRanksSaid : Prop := groundRanksRow.holds Try.pinned (OpenSpec.ofChange groundRanksSpec)

/-- ITS FALSE NEIGHBOUR: 'it returns false'. Refute it at one input. -/
def groundRanksWrong : ChangeSpec := { name := "groundRanks", fn := fun _ => fun
  | [d1, d2, d3, d4, d5] => { results := [.lit (.bool false)], args := [d1, d2, d3, d4, d5] }
  | _ => none }
def GroundRanksWrongFalsely : Prop := groundRanksRow.holds Try.pinned (OpenSpec.ofChange groundRanksWrong)

/-- 'wordbooklaw24.GroundChecks': WHATEVER THE INPUT: true; the input reads as it did. -/
def groundChecksSpec : ChangeSpec := { name := "groundChecks", fn := fun _ => fun
  | [d1, d2, d3, d4, d5] => { results := [.lit (.bool true)], args := [d1, d2, d3, d4, d5] }
  | _ => none }
def groundChecksRow : OpenClaim := { program := "ytjlidhijnohkbaa", sum := "2dfe4817954a4151e526372e5c1b2e2f30b75599f827ab8752cc20156edf2e52", func := "wordbook/wordbooklaw24.GroundChecks", spec := "groundChecks", unfollowed := true, recurses := true, apart := false }
def GroundChecksSaid : Prop := groundChecksRow.holds Try.pinned (OpenSpec.ofChange groundChecksSpec)

/-- ITS FALSE NEIGHBOUR: 'it returns false'. Refute it at one input. -/
def groundChecksWrong : ChangeSpec := { name := "groundChecks", fn := fun _ => fun
  | [d1, d2, d3, d4, d5] => { results := [.lit (.bool false)], args := [d1, d2, d3, d4, d5] }
  | _ => none }
def GroundChecksWrongFalsely : Prop := groundChecksRow.holds Try.pinned (OpenSpec.ofChange groundChecksWrong)

/-- 'wordbooklaw24.GroundProves': WHATEVER THE INPUT: true; the input reads as it did. -/
def groundProvesSpec : ChangeSpec := { name := "groundProves", fn := fun _ => fun
  | [d1, d2, d3, d4, d5] => { results := [.lit (.bool true)], args := [d1, d2, d3, d4, d5] }
  | _ => none }
def groundProvesRow : OpenClaim := { program := "ytjlidhijnohkbaa", sum := "2dfe4817954a4151e526372e5c1b2e2f30b75599f827ab8752cc20156edf2e52", func := "wordbook/wordbooklaw24.GroundProves", spec := "groundProves", unfollowed := true, recurses := true, apart := false }
def GroundProvesSaid : Prop := groundProvesRow.holds Try.pinned (OpenSpec.ofChange groundProvesSpec)

/-- ITS FALSE NEIGHBOUR: 'it returns false'. Refute it at one input. -/
def groundProvesWrong : ChangeSpec := { name := "groundProves", fn := fun _ => fun
  | [d1, d2, d3, d4, d5] => { results := [.lit (.bool false)], args := [d1, d2, d3, d4, d5] }
  | _ => none }
def GroundProvesWrongFalsely : Prop := groundProvesRow.holds Try.pinned (OpenSpec.ofChange groundProvesWrong)

/-- 'wordbooklaw24.GroundWitnesses': WHATEVER THE INPUT: true; the input reads as it did. -/
def groundWitnessesSpec : ChangeSpec := { name := "groundWitnesses", fn := fun _ => fun
  | [d1, d2] => { results := [.lit (.bool true)], args := [d1, d2] }
  | _ => none }
def groundWitnessesRow : OpenClaim := { program := "ytjlidhijnohkbaa", sum := "2dfe4817954a4151e526372e5c1b2e2f30b75599f827ab8752cc20156edf2e52", func := "wordbook/wordbooklaw24.GroundWitnesses", spec := "groundWitnesses", unfollowed := true, recurses := true, apart := false }
def GroundWitnessesSaid : Prop := groundWitnessesRow.holds Try.pinned (OpenSpec.ofChange groundWitnessesSpec)

/-- ITS FALSE NEIGHBOUR: 'it returns false'. Refute it at one input. -/
def groundWitnessesWrong : ChangeSpec := { name := "groundWitnesses", fn := fun _ => fun
  | [d1, d2] => { results := [.lit (.bool false)], args := [d1, d2] }
  | _ => none }
def GroundWitnessesWrongFalsely : Prop := groundWitnessesRow.holds Try.pinned (OpenSpec.ofChange groundWitnessesWrong)

/-- 'wordbooklaw24.GroundReasons': WHATEVER THE INPUT: true; the input reads as it did. -/
def groundReasonsSpec : ChangeSpec := { name := "groundReasons", fn := fun _ => fun
  | [d1, d2, d3] => { results := [.lit (.bool true)], args := [d1, d2, d3] }
  | _ => none }
def groundReasonsRow : OpenClaim := { program := "ytjlidhijnohkbaa", sum := "2dfe4817954a4151e526372e5c1b2e2f30b75599f827ab8752cc20156edf2e52", func := "wordbook/wordbooklaw24.GroundReasons", spec := "groundReasons", unfollowed := true, recurses := true, apart := false }
def GroundReasonsSaid : Prop := groundReasonsRow.holds Try.pinned (OpenSpec.ofChange groundReasonsSpec)

/-- ITS FALSE NEIGHBOUR: 'it returns false'. Refute it at one input. -/
def groundReasonsWrong : ChangeSpec := { name := "groundReasons", fn := fun _ => fun
  | [d1, d2, d3] => { results := [.lit (.bool false)], args := [d1, d2, d3] }
  | _ => none }
def GroundReasonsWrongFalsely : Prop := groundReasonsRow.holds Try.pinned (OpenSpec.ofChange groundReasonsWrong)

/-- 'wordbooklaw24.GroundCircles': WHATEVER THE INPUT: true; the input reads as it did. -/
def groundCirclesSpec : ChangeSpec := { name := "groundCircles", fn := fun _ => fun
  | [d1, d2] => { results := [.lit (.bool true)], args := [d1, d2] }
  | _ => none }
def groundCirclesRow : OpenClaim := { program := "ytjlidhijnohkbaa", sum := "2dfe4817954a4151e526372e5c1b2e2f30b75599f827ab8752cc20156edf2e52", func := "wordbook/wordbooklaw24.GroundCircles", spec := "groundCircles", unfollowed := true, recurses := true, apart := false }
def GroundCirclesSaid : Prop := groundCirclesRow.holds Try.pinned (OpenSpec.ofChange groundCirclesSpec)

/-- ITS FALSE NEIGHBOUR: 'it returns false'. Refute it at one input. -/
def groundCirclesWrong : ChangeSpec := { name := "groundCircles", fn := fun _ => fun
  | [d1, d2] => { results := [.lit (.bool false)], args := [d1, d2] }
  | _ => none }
def GroundCirclesWrongFalsely : Prop := groundCirclesRow.holds Try.pinned (OpenSpec.ofChange groundCirclesWrong)

/-- 'wordbooklaw24.GroundGrows': WHATEVER THE INPUT: true; the input reads as it did. -/
def groundGrowsSpec : ChangeSpec := { name := "groundGrows", fn := fun _ => fun
  | [d1, d2, d3, d4] => { results := [.lit (.bool true)], args := [d1, d2, d3, d4] }
  | _ => none }
def groundGrowsRow : OpenClaim := { program := "ytjlidhijnohkbaa", sum := "2dfe4817954a4151e526372e5c1b2e2f30b75599f827ab8752cc20156edf2e52", func := "wordbook/wordbooklaw24.GroundGrows", spec := "groundGrows", unfollowed := true, recurses := true, apart := false }
def GroundGrowsSaid : Prop := groundGrowsRow.holds Try.pinned (OpenSpec.ofChange groundGrowsSpec)

/-- ITS FALSE NEIGHBOUR: 'it returns false'. Refute it at one input. -/
def groundGrowsWrong : ChangeSpec := { name := "groundGrows", fn := fun _ => fun
  | [d1, d2, d3, d4] => { results := [.lit (.bool false)], args := [d1, d2, d3, d4] }
  | _ => none }
def GroundGrowsWrongFalsely : Prop := groundGrowsRow.holds Try.pinned (OpenSpec.ofChange groundGrowsWrong)

/-- 'wordbooklaw24.GroundNumbers': WHATEVER THE INPUT: true; the input reads as it did. -/
def groundNumbersSpec : ChangeSpec := { name := "groundNumbers", fn := fun _ => fun
  | [d1, d2] => { results := [.lit (.bool true)], args := [d1, d2] }
  | _ => none }
def groundNumbersRow : OpenClaim := { program := "ytjlidhijnohkbaa", sum := "2dfe4817954a4151e526372e5c1b2e2f30b75599f827ab8752cc20156edf2e52", func := "wordbook/wordbooklaw24.GroundNumbers", spec := "groundNumbers", unfollowed := true, recurses := true, apart := false }
def GroundNumbersSaid : Prop := groundNumbersRow.holds Try.pinned (OpenSpec.ofChange groundNumbersSpec)

/-- ITS FALSE NEIGHBOUR: 'it returns false'. Refute it at one input. -/
def groundNumbersWrong : ChangeSpec := { name := "groundNumbers", fn := fun _ => fun
  | [d1, d2] => { results := [.lit (.bool false)], args := [d1, d2] }
  | _ => none }
def GroundNumbersWrongFalsely : Prop := groundNumbersRow.holds Try.pinned (OpenSpec.ofChange groundNumbersWrong)

/-- 'wordbooklaw24.GroundPaths': WHATEVER THE INPUT: true; the input reads as it did. -/
def groundPathsSpec : ChangeSpec := { name := "groundPaths", fn := fun _ => fun
  | [d1, d2] => { results := [.lit (.bool true)], args := [d1, d2] }
  | _ => none }
def groundPathsRow : OpenClaim := { program := "ytjlidhijnohkbaa", sum := "2dfe4817954a4151e526372e5c1b2e2f30b75599f827ab8752cc20156edf2e52", func := "wordbook/wordbooklaw24.GroundPaths", spec := "groundPaths", unfollowed := true, recurses := true, apart := false }
def GroundPathsSaid : Prop := groundPathsRow.holds Try.pinned (OpenSpec.ofChange groundPathsSpec)

/-- ITS FALSE NEIGHBOUR: 'it returns false'. Refute it at one input. -/
def groundPathsWrong : ChangeSpec := { name := "groundPaths", fn := fun _ => fun
  | [d1, d2] => { results := [.lit (.bool false)], args := [d1, d2] }
  | _ => none }
def GroundPathsWrongFalsely : Prop := groundPathsRow.holds Try.pinned (OpenSpec.ofChange groundPathsWrong)

/- THE SECOND FORM. 'bulk': how many values and letters a reading holds, each counted each time it is reached (what is shared counts as often as it is met; a slice's spare places count too). A statement '..UptoSaid' is the law's where the arguments, and the package variables that the reading takes, are together of bulk at most 1048576: NARROWER than '..Said'. Prove '..Said' where nothing that the law and all that it calls make is longer than what came in: it says more and counts as full. Else prove '..UptoSaid'. A law counts once. -/
mutual
def uptoBulk {H : Type} : DataW H → Nat
  | .lit (.string bytes) => bytes.length + 1
  | .lit _ => 1
  | .nil => 1
  | .ptr d => uptoBulk d + 1
  | .slice elems spare => uptoBulkAll elems + uptoBulkAll spare + 1
  | .agg parts => uptoBulkAll parts + 1
  | .iface _ d => uptoBulk d + 1
  | .map entries => uptoBulkEntries entries + 1
  | .held _ => 1
def uptoBulkAll {H : Type} : List (DataW H) → Nat
  | [] => 0
  | d :: r => uptoBulk d + uptoBulkAll r
def uptoBulkEntries {H : Type} : List (Lit × DataW H) → Nat
  | [] => 0
  | x :: r => uptoBulkEntry x + uptoBulkEntries r
def uptoBulkEntry {H : Type} : Lit × DataW H → Nat
  | (.string bytes, d) => bytes.length + uptoBulk d + 1
  | (_, d) => uptoBulk d + 1
 end
def uptoSmall : (H : Type) → List (DataW H) → Bool := fun _ ds => decide (uptoBulkAll ds ≤ 1048576)
def OpenSpec.upto (s : _root_.Go.ChangeSpec) : _root_.Go.OpenSpec := { _root_.Go.OpenSpec.ofChange s with cond := some uptoSmall }

/-- 'wordbooklaw24.GroundRanks', WHERE WHAT IT READS IS OF BULK AT MOST 1048576: true; the input reads as it did. -/
def groundRanksUptoRow : OpenClaim := { program := "ytjlidhijnohkbaa", sum := "2dfe4817954a4151e526372e5c1b2e2f30b75599f827ab8752cc20156edf2e52", func := "wordbook/wordbooklaw24.GroundRanks", spec := "groundRanks", unfollowed := true, recurses := true, apart := false, narrowed := true }
def GroundRanksUptoSaid : Prop := groundRanksUptoRow.holds Try.pinned (OpenSpec.upto groundRanksSpec)

/-- 'wordbooklaw24.GroundChecks', WHERE WHAT IT READS IS OF BULK AT MOST 1048576: true; the input reads as it did. -/
def groundChecksUptoRow : OpenClaim := { program := "ytjlidhijnohkbaa", sum := "2dfe4817954a4151e526372e5c1b2e2f30b75599f827ab8752cc20156edf2e52", func := "wordbook/wordbooklaw24.GroundChecks", spec := "groundChecks", unfollowed := true, recurses := true, apart := false, narrowed := true }
def GroundChecksUptoSaid : Prop := groundChecksUptoRow.holds Try.pinned (OpenSpec.upto groundChecksSpec)

/-- 'wordbooklaw24.GroundProves', WHERE WHAT IT READS IS OF BULK AT MOST 1048576: true; the input reads as it did. -/
def groundProvesUptoRow : OpenClaim := { program := "ytjlidhijnohkbaa", sum := "2dfe4817954a4151e526372e5c1b2e2f30b75599f827ab8752cc20156edf2e52", func := "wordbook/wordbooklaw24.GroundProves", spec := "groundProves", unfollowed := true, recurses := true, apart := false, narrowed := true }
def GroundProvesUptoSaid : Prop := groundProvesUptoRow.holds Try.pinned (OpenSpec.upto groundProvesSpec)

/-- 'wordbooklaw24.GroundWitnesses', WHERE WHAT IT READS IS OF BULK AT MOST 1048576: true; the input reads as it did. -/
def groundWitnessesUptoRow : OpenClaim := { program := "ytjlidhijnohkbaa", sum := "2dfe4817954a4151e526372e5c1b2e2f30b75599f827ab8752cc20156edf2e52", func := "wordbook/wordbooklaw24.GroundWitnesses", spec := "groundWitnesses", unfollowed := true, recurses := true, apart := false, narrowed := true }
def GroundWitnessesUptoSaid : Prop := groundWitnessesUptoRow.holds Try.pinned (OpenSpec.upto groundWitnessesSpec)

/-- 'wordbooklaw24.GroundReasons', WHERE WHAT IT READS IS OF BULK AT MOST 1048576: true; the input reads as it did. -/
def groundReasonsUptoRow : OpenClaim := { program := "ytjlidhijnohkbaa", sum := "2dfe4817954a4151e526372e5c1b2e2f30b75599f827ab8752cc20156edf2e52", func := "wordbook/wordbooklaw24.GroundReasons", spec := "groundReasons", unfollowed := true, recurses := true, apart := false, narrowed := true }
def GroundReasonsUptoSaid : Prop := groundReasonsUptoRow.holds Try.pinned (OpenSpec.upto groundReasonsSpec)

/-- 'wordbooklaw24.GroundCircles', WHERE WHAT IT READS IS OF BULK AT MOST 1048576: true; the input reads as it did. -/
def groundCirclesUptoRow : OpenClaim := { program := "ytjlidhijnohkbaa", sum := "2dfe4817954a4151e526372e5c1b2e2f30b75599f827ab8752cc20156edf2e52", func := "wordbook/wordbooklaw24.GroundCircles", spec := "groundCircles", unfollowed := true, recurses := true, apart := false, narrowed := true }
def GroundCirclesUptoSaid : Prop := groundCirclesUptoRow.holds Try.pinned (OpenSpec.upto groundCirclesSpec)

/-- 'wordbooklaw24.GroundGrows', WHERE WHAT IT READS IS OF BULK AT MOST 1048576: true; the input reads as it did. -/
def groundGrowsUptoRow : OpenClaim := { program := "ytjlidhijnohkbaa", sum := "2dfe4817954a4151e526372e5c1b2e2f30b75599f827ab8752cc20156edf2e52", func := "wordbook/wordbooklaw24.GroundGrows", spec := "groundGrows", unfollowed := true, recurses := true, apart := false, narrowed := true }
def GroundGrowsUptoSaid : Prop := groundGrowsUptoRow.holds Try.pinned (OpenSpec.upto groundGrowsSpec)

/-- 'wordbooklaw24.GroundNumbers', WHERE WHAT IT READS IS OF BULK AT MOST 1048576: true; the input reads as it did. -/
def groundNumbersUptoRow : OpenClaim := { program := "ytjlidhijnohkbaa", sum := "2dfe4817954a4151e526372e5c1b2e2f30b75599f827ab8752cc20156edf2e52", func := "wordbook/wordbooklaw24.GroundNumbers", spec := "groundNumbers", unfollowed := true, recurses := true, apart := false, narrowed := true }
def GroundNumbersUptoSaid : Prop := groundNumbersUptoRow.holds Try.pinned (OpenSpec.upto groundNumbersSpec)

/-- 'wordbooklaw24.GroundPaths', WHERE WHAT IT READS IS OF BULK AT MOST 1048576: true; the input reads as it did. -/
def groundPathsUptoRow : OpenClaim := { program := "ytjlidhijnohkbaa", sum := "2dfe4817954a4151e526372e5c1b2e2f30b75599f827ab8752cc20156edf2e52", func := "wordbook/wordbooklaw24.GroundPaths", spec := "groundPaths", unfollowed := true, recurses := true, apart := false, narrowed := true }
def GroundPathsUptoSaid : Prop := groundPathsUptoRow.holds Try.pinned (OpenSpec.upto groundPathsSpec)

end Rows
end Go.Proofs.Ytjlidhijnohkbaa
