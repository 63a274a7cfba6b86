/-
  No cell of these rows narrows 'for every input' (looked for: loops, veiled, ifaces, maps, wideKeys, modest, calm, conditions, laid).
  DERIVED. THE GIVEN ROWS OF THIS SEAT. 8 by the template 'for every input the law returns true; each argument reads behind the call as it read before'; 0 by the template 'total and deterministic' (their statements: YtlbdmpjnmfmnfaaTotals.lean).
  GIVEN WITH THE SEED: the statements are not yours to turn. If you find one false, say at which input.
  Laid BY PROGRAM, IN A SANDBOX (cutbox-rows.mjs): the forced cells as the released guide's own fill.sh prints them over the translation 63ff8fac83b6e5d1… (all of the seat's roots in one cut). By AI agents, Wed Nov 11 2026. No macro, syntax, notation, axiom, sorry.
-/
import Derived.Test.YtlbdmpjnmfmnfaaChecked
import GoSem.Claim
import GoSem.ClaimJoined
import GoSem.ClaimMapViews
import Derived.JoinedTies
import Derived.KernelRfl
namespace Go.Proofs.Ytlbdmpjnmfmnfaa
/- THE CELL 'sum', in the pinned program and in every row, IS THE sha256 OF THE DUMP (.gsa) THAT YtlbdmpjnmfmnfaaProg.lean LOADS. Nothing in Lean hashes anything: it is a label: what it is worth is what the hold of that sum in a sandbox is worth. -/
noncomputable def Try.pinned : Pinned := { name := "ytlbdmpjnmfmnfaa", sum := "63ff8fac83b6e5d1ae660d734846912157d7badca31ddec9a7362557a87ade06", checked := Try.checked }
namespace Rows
def none {H : Type} : Left H := { results := [], args := [] }

/-- 'wordbooklaw09.FstApplies': WHATEVER THE INPUT: true; the input reads as it did. -/
def fstAppliesSpec : ChangeSpec := { name := "fstApplies", fn := fun _ => fun
  | [d1, d2, d3, d4, d5, d6] => { results := [.lit (.bool true)], args := [d1, d2, d3, d4, d5, d6] }
  | _ => none }
def fstAppliesRow : OpenClaim := { program := "ytlbdmpjnmfmnfaa", sum := "63ff8fac83b6e5d1ae660d734846912157d7badca31ddec9a7362557a87ade06", func := "wordbook/wordbooklaw09.FstApplies", spec := "fstApplies", unfollowed := true, recurses := true, plainKeys := false, apart := false }
def FstAppliesSaid : Prop := fstAppliesRow.holds Try.pinned (OpenSpec.ofChange fstAppliesSpec)

/-- ITS FALSE NEIGHBOUR: 'it returns false'. Refute it at one input. -/
def fstAppliesWrong : ChangeSpec := { name := "fstApplies", fn := fun _ => fun
  | [d1, d2, d3, d4, d5, d6] => { results := [.lit (.bool false)], args := [d1, d2, d3, d4, d5, d6] }
  | _ => none }
def FstAppliesWrongFalsely : Prop := fstAppliesRow.holds Try.pinned (OpenSpec.ofChange fstAppliesWrong)

/-- 'wordbooklaw09.FstComposition': WHATEVER THE INPUT: true; the input reads as it did. -/
def fstCompositionSpec : ChangeSpec := { name := "fstComposition", fn := fun _ => fun
  | [d1, d2, d3] => { results := [.lit (.bool true)], args := [d1, d2, d3] }
  | _ => none }
def fstCompositionRow : OpenClaim := { program := "ytlbdmpjnmfmnfaa", sum := "63ff8fac83b6e5d1ae660d734846912157d7badca31ddec9a7362557a87ade06", func := "wordbook/wordbooklaw09.FstComposition", spec := "fstComposition", unfollowed := true, recurses := true, plainKeys := false, apart := false }
def FstCompositionSaid : Prop := fstCompositionRow.holds Try.pinned (OpenSpec.ofChange fstCompositionSpec)

/-- ITS FALSE NEIGHBOUR: 'it returns false'. Refute it at one input. -/
def fstCompositionWrong : ChangeSpec := { name := "fstComposition", fn := fun _ => fun
  | [d1, d2, d3] => { results := [.lit (.bool false)], args := [d1, d2, d3] }
  | _ => none }
def FstCompositionWrongFalsely : Prop := fstCompositionRow.holds Try.pinned (OpenSpec.ofChange fstCompositionWrong)

/-- 'wordbooklaw09.FstInversion': WHATEVER THE INPUT: true; the input reads as it did. -/
def fstInversionSpec : ChangeSpec := { name := "fstInversion", fn := fun _ => fun
  | [d1, d2, d3] => { results := [.lit (.bool true)], args := [d1, d2, d3] }
  | _ => none }
def fstInversionRow : OpenClaim := { program := "ytlbdmpjnmfmnfaa", sum := "63ff8fac83b6e5d1ae660d734846912157d7badca31ddec9a7362557a87ade06", func := "wordbook/wordbooklaw09.FstInversion", spec := "fstInversion", unfollowed := true, recurses := true, plainKeys := false, apart := false }
def FstInversionSaid : Prop := fstInversionRow.holds Try.pinned (OpenSpec.ofChange fstInversionSpec)

/-- ITS FALSE NEIGHBOUR: 'it returns false'. Refute it at one input. -/
def fstInversionWrong : ChangeSpec := { name := "fstInversion", fn := fun _ => fun
  | [d1, d2, d3] => { results := [.lit (.bool false)], args := [d1, d2, d3] }
  | _ => none }
def FstInversionWrongFalsely : Prop := fstInversionRow.holds Try.pinned (OpenSpec.ofChange fstInversionWrong)

/-- 'wordbooklaw09.FstTrims': WHATEVER THE INPUT: true; the input reads as it did. -/
def fstTrimsSpec : ChangeSpec := { name := "fstTrims", fn := fun _ => fun
  | [d1, d2, d3] => { results := [.lit (.bool true)], args := [d1, d2, d3] }
  | _ => none }
def fstTrimsRow : OpenClaim := { program := "ytlbdmpjnmfmnfaa", sum := "63ff8fac83b6e5d1ae660d734846912157d7badca31ddec9a7362557a87ade06", func := "wordbook/wordbooklaw09.FstTrims", spec := "fstTrims", unfollowed := true, recurses := true, plainKeys := false, apart := false }
def FstTrimsSaid : Prop := fstTrimsRow.holds Try.pinned (OpenSpec.ofChange fstTrimsSpec)

/-- ITS FALSE NEIGHBOUR: 'it returns false'. Refute it at one input. -/
def fstTrimsWrong : ChangeSpec := { name := "fstTrims", fn := fun _ => fun
  | [d1, d2, d3] => { results := [.lit (.bool false)], args := [d1, d2, d3] }
  | _ => none }
def FstTrimsWrongFalsely : Prop := fstTrimsRow.holds Try.pinned (OpenSpec.ofChange fstTrimsWrong)

/-- 'wordbooklaw09.FstLimits': WHATEVER THE INPUT: true; the input reads as it did. -/
def fstLimitsSpec : ChangeSpec := { name := "fstLimits", fn := fun _ => fun
  | [d1, d2, d3] => { results := [.lit (.bool true)], args := [d1, d2, d3] }
  | _ => none }
def fstLimitsRow : OpenClaim := { program := "ytlbdmpjnmfmnfaa", sum := "63ff8fac83b6e5d1ae660d734846912157d7badca31ddec9a7362557a87ade06", func := "wordbook/wordbooklaw09.FstLimits", spec := "fstLimits", unfollowed := true, recurses := true, plainKeys := false, apart := false }
def FstLimitsSaid : Prop := fstLimitsRow.holds Try.pinned (OpenSpec.ofChange fstLimitsSpec)

/-- ITS FALSE NEIGHBOUR: 'it returns false'. Refute it at one input. -/
def fstLimitsWrong : ChangeSpec := { name := "fstLimits", fn := fun _ => fun
  | [d1, d2, d3] => { results := [.lit (.bool false)], args := [d1, d2, d3] }
  | _ => none }
def FstLimitsWrongFalsely : Prop := fstLimitsRow.holds Try.pinned (OpenSpec.ofChange fstLimitsWrong)

/-- 'wordbooklaw09.FstLaws': WHATEVER THE INPUT: true; the input reads as it did. -/
def fstLawsSpec : ChangeSpec := { name := "fstLaws", fn := fun _ => fun
  | [d1, d2, d3, d4] => { results := [.lit (.bool true)], args := [d1, d2, d3, d4] }
  | _ => none }
def fstLawsRow : OpenClaim := { program := "ytlbdmpjnmfmnfaa", sum := "63ff8fac83b6e5d1ae660d734846912157d7badca31ddec9a7362557a87ade06", func := "wordbook/wordbooklaw09.FstLaws", spec := "fstLaws", unfollowed := true, recurses := true, plainKeys := false, apart := false }
def FstLawsSaid : Prop := fstLawsRow.holds Try.pinned (OpenSpec.ofChange fstLawsSpec)

/-- ITS FALSE NEIGHBOUR: 'it returns false'. Refute it at one input. -/
def fstLawsWrong : ChangeSpec := { name := "fstLaws", fn := fun _ => fun
  | [d1, d2, d3, d4] => { results := [.lit (.bool false)], args := [d1, d2, d3, d4] }
  | _ => none }
def FstLawsWrongFalsely : Prop := fstLawsRow.holds Try.pinned (OpenSpec.ofChange fstLawsWrong)

/-- 'wordbooklaw09.FstOperations': WHATEVER THE INPUT: true; the input reads as it did. -/
def fstOperationsSpec : ChangeSpec := { name := "fstOperations", fn := fun _ => fun
  | [d1, d2, d3, d4, d5, d6] => { results := [.lit (.bool true)], args := [d1, d2, d3, d4, d5, d6] }
  | _ => none }
def fstOperationsRow : OpenClaim := { program := "ytlbdmpjnmfmnfaa", sum := "63ff8fac83b6e5d1ae660d734846912157d7badca31ddec9a7362557a87ade06", func := "wordbook/wordbooklaw09.FstOperations", spec := "fstOperations", unfollowed := true, recurses := true, plainKeys := false, apart := false }
def FstOperationsSaid : Prop := fstOperationsRow.holds Try.pinned (OpenSpec.ofChange fstOperationsSpec)

/-- ITS FALSE NEIGHBOUR: 'it returns false'. Refute it at one input. -/
def fstOperationsWrong : ChangeSpec := { name := "fstOperations", fn := fun _ => fun
  | [d1, d2, d3, d4, d5, d6] => { results := [.lit (.bool false)], args := [d1, d2, d3, d4, d5, d6] }
  | _ => none }
def FstOperationsWrongFalsely : Prop := fstOperationsRow.holds Try.pinned (OpenSpec.ofChange fstOperationsWrong)

/-- 'wordbooklaw09.FstDomain': WHATEVER THE INPUT: true; the input reads as it did. -/
def fstDomainSpec : ChangeSpec := { name := "fstDomain", fn := fun _ => fun
  | [d1, d2, d3, d4, d5] => { results := [.lit (.bool true)], args := [d1, d2, d3, d4, d5] }
  | _ => none }
def fstDomainRow : OpenClaim := { program := "ytlbdmpjnmfmnfaa", sum := "63ff8fac83b6e5d1ae660d734846912157d7badca31ddec9a7362557a87ade06", func := "wordbook/wordbooklaw09.FstDomain", spec := "fstDomain", unfollowed := true, recurses := true, plainKeys := false, apart := false }
def FstDomainSaid : Prop := fstDomainRow.holds Try.pinned (OpenSpec.ofChange fstDomainSpec)

/-- ITS FALSE NEIGHBOUR: 'it returns false'. Refute it at one input. -/
def fstDomainWrong : ChangeSpec := { name := "fstDomain", fn := fun _ => fun
  | [d1, d2, d3, d4, d5] => { results := [.lit (.bool false)], args := [d1, d2, d3, d4, d5] }
  | _ => none }
def FstDomainWrongFalsely : Prop := fstDomainRow.holds Try.pinned (OpenSpec.ofChange fstDomainWrong)

/- THE SECOND FORM. 'bulk': how many values and letters a reading holds, each counted each time it is reached (what is shared counts as often as it is met; a slice's spare places count too). A statement '..UptoSaid' is the law's where the arguments, and the package variables that the reading takes, are together of bulk at most 1048576: NARROWER than '..Said'. Prove '..Said' where nothing that the law and all that it calls make is longer than what came in: it says more and counts as full. Else prove '..UptoSaid'. A law counts once. -/
mutual
def uptoBulk {H : Type} : DataW H → Nat
  | .lit (.string bytes) => bytes.length + 1
  | .lit _ => 1
  | .nil => 1
  | .ptr d => uptoBulk d + 1
  | .slice elems spare => uptoBulkAll elems + uptoBulkAll spare + 1
  | .agg parts => uptoBulkAll parts + 1
  | .iface _ d => uptoBulk d + 1
  | .map entries => uptoBulkEntries entries + 1
  | .held _ => 1
def uptoBulkAll {H : Type} : List (DataW H) → Nat
  | [] => 0
  | d :: r => uptoBulk d + uptoBulkAll r
def uptoBulkEntries {H : Type} : List (Lit × DataW H) → Nat
  | [] => 0
  | x :: r => uptoBulkEntry x + uptoBulkEntries r
def uptoBulkEntry {H : Type} : Lit × DataW H → Nat
  | (.string bytes, d) => bytes.length + uptoBulk d + 1
  | (_, d) => uptoBulk d + 1
 end
def uptoSmall : (H : Type) → List (DataW H) → Bool := fun _ ds => decide (uptoBulkAll ds ≤ 1048576)
def OpenSpec.upto (s : _root_.Go.ChangeSpec) : _root_.Go.OpenSpec := { _root_.Go.OpenSpec.ofChange s with cond := some uptoSmall }

/-- 'wordbooklaw09.FstApplies', WHERE WHAT IT READS IS OF BULK AT MOST 1048576: true; the input reads as it did. -/
def fstAppliesUptoRow : OpenClaim := { program := "ytlbdmpjnmfmnfaa", sum := "63ff8fac83b6e5d1ae660d734846912157d7badca31ddec9a7362557a87ade06", func := "wordbook/wordbooklaw09.FstApplies", spec := "fstApplies", unfollowed := true, recurses := true, plainKeys := false, apart := false, narrowed := true }
def FstAppliesUptoSaid : Prop := fstAppliesUptoRow.holds Try.pinned (OpenSpec.upto fstAppliesSpec)

/-- 'wordbooklaw09.FstComposition', WHERE WHAT IT READS IS OF BULK AT MOST 1048576: true; the input reads as it did. -/
def fstCompositionUptoRow : OpenClaim := { program := "ytlbdmpjnmfmnfaa", sum := "63ff8fac83b6e5d1ae660d734846912157d7badca31ddec9a7362557a87ade06", func := "wordbook/wordbooklaw09.FstComposition", spec := "fstComposition", unfollowed := true, recurses := true, plainKeys := false, apart := false, narrowed := true }
def FstCompositionUptoSaid : Prop := fstCompositionUptoRow.holds Try.pinned (OpenSpec.upto fstCompositionSpec)

/-- 'wordbooklaw09.FstInversion', WHERE WHAT IT READS IS OF BULK AT MOST 1048576: true; the input reads as it did. -/
def fstInversionUptoRow : OpenClaim := { program := "ytlbdmpjnmfmnfaa", sum := "63ff8fac83b6e5d1ae660d734846912157d7badca31ddec9a7362557a87ade06", func := "wordbook/wordbooklaw09.FstInversion", spec := "fstInversion", unfollowed := true, recurses := true, plainKeys := false, apart := false, narrowed := true }
def FstInversionUptoSaid : Prop := fstInversionUptoRow.holds Try.pinned (OpenSpec.upto fstInversionSpec)

/-- 'wordbooklaw09.FstTrims', WHERE WHAT IT READS IS OF BULK AT MOST 1048576: true; the input reads as it did. -/
def fstTrimsUptoRow : OpenClaim := { program := "ytlbdmpjnmfmnfaa", sum := "63ff8fac83b6e5d1ae660d734846912157d7badca31ddec9a7362557a87ade06", func := "wordbook/wordbooklaw09.FstTrims", spec := "fstTrims", unfollowed := true, recurses := true, plainKeys := false, apart := false, narrowed := true }
def FstTrimsUptoSaid : Prop := fstTrimsUptoRow.holds Try.pinned (OpenSpec.upto fstTrimsSpec)

/-- 'wordbooklaw09.FstLimits', WHERE WHAT IT READS IS OF BULK AT MOST 1048576: true; the input reads as it did. -/
def fstLimitsUptoRow : OpenClaim := { program := "ytlbdmpjnmfmnfaa", sum := "63ff8fac83b6e5d1ae660d734846912157d7badca31ddec9a7362557a87ade06", func := "wordbook/wordbooklaw09.FstLimits", spec := "fstLimits", unfollowed := true, recurses := true, plainKeys := false, apart := false, narrowed := true }
def FstLimitsUptoSaid : Prop := fstLimitsUptoRow.holds Try.pinned (OpenSpec.upto fstLimitsSpec)

/-- 'wordbooklaw09.FstLaws', WHERE WHAT IT READS IS OF BULK AT MOST 1048576: true; the input reads as it did. -/
def fstLawsUptoRow : OpenClaim := { program := "ytlbdmpjnmfmnfaa", sum := "63ff8fac83b6e5d1ae660d734846912157d7badca31ddec9a7362557a87ade06", func := "wordbook/wordbooklaw09.FstLaws", spec := "fstLaws", unfollowed := true, recurses := true, plainKeys := false, apart := false, narrowed := true }
def FstLawsUptoSaid : Prop := fstLawsUptoRow.holds Try.pinned (OpenSpec.upto fstLawsSpec)

/-- 'wordbooklaw09.FstOperations', WHERE WHAT IT READS IS OF BULK AT MOST 1048576: true; the input reads as it did. -/
def fstOperationsUptoRow : OpenClaim := { program := "ytlbdmpjnmfmnfaa", sum := "63ff8fac83b6e5d1ae660d734846912157d7badca31ddec9a7362557a87ade06", func := "wordbook/wordbooklaw09.FstOperations", spec := "fstOperations", unfollowed := true, recurses := true, plainKeys := false, apart := false, narrowed := true }
def FstOperationsUptoSaid : Prop := fstOperationsUptoRow.holds Try.pinned (OpenSpec.upto fstOperationsSpec)

/-- 'wordbooklaw09.FstDomain', WHERE WHAT IT READS IS OF BULK AT MOST 1048576: true; the input reads as it did. -/
def fstDomainUptoRow : OpenClaim := { program := "ytlbdmpjnmfmnfaa", sum := "63ff8fac83b6e5d1ae660d734846912157d7badca31ddec9a7362557a87ade06", func := "wordbook/wordbooklaw09.FstDomain", spec := "fstDomain", unfollowed := true, recurses := true, plainKeys := false, apart := false, narrowed := true }
def FstDomainUptoSaid : Prop := fstDomainUptoRow.holds Try.pinned (OpenSpec.upto fstDomainSpec)

end Rows
end Go.Proofs.Ytlbdmpjnmfmnfaa
